/- Proved here: laws that the statements need (TfA, TfB, TfD, TfE, TfF, TfG, TfH, TfI, TfJ, TfK, TfL, TfM, TfN, TfO, TfS1, TfS2). No conditions but those that each law states. -/
import Derived.Test.YtbhbbjngndmnmaaGreatDoorUA
set_option linter.unusedSimpArgs false
set_option linter.unusedVariables false
namespace Go.Proofs.YtbhbbjngndmnmaaGreatDoor.F
open Go Go.Ab
def wI (n lo hi : Int) : Bool := decide (lo ≤ n ∧ n ≤ hi)
theorem within_ok (n lo hi : Int) : ACall Tryz.prog 50 [.t (vi n), .t (vi lo), .t (vi hi)] [] (ret (vb (wI n lo hi))) := by
  refine ACall.walk k50 ?_
  unfold c50
  simp only [go_sem, Nat.reduceEqDiff, Nat.reduceAdd]
  cases hA : decide (lo ≤ n)
  · simp only [go_sem, Nat.reduceEqDiff, undef]
    exact finL_ret [] ⟨rfl, rfl, rfl, rfl, _, rfl, res_mk (by
      have : ¬ lo ≤ n := by simpa using hA
      have e : wI n lo hi = false := by simp [wI, this]
      rw [e]; rfl)⟩
  · simp only [go_sem, Nat.reduceEqDiff]
    exact finL_ret [] ⟨rfl, rfl, rfl, rfl, _, rfl, res_mk (by
      have : lo ≤ n := by simpa using hA
      have e : wI n lo hi = decide (n ≤ hi) := by simp [wI, this]
      rw [e]; rfl)⟩
def rfs (e : Int) : T := .iface 110 (vi e)
abbrev askO (is : Bool) (e : Int) : Out := if is then .ret (.tup []) else .pan (rfs e)
theorem ask_ok (is : Bool) (e : Int) : ACall Tryz.prog 29 [.t (vb is), .t (vi e)] [] (res (askO is e)) := by
  refine ACall.walk k29 ?_
  unfold c29
  cases is
  all_goals simp only [go_sem, Nat.reduceEqDiff, Bool.not_true, Bool.not_false]
  · exact finL_pan [] ⟨rfl, rfl, rfl, rfl, res_mk rfl⟩
  · exact finL_ret [] ⟨rfl, rfl, rfl, rfl, _, rfl, res_mk (by simp [E.gc])⟩
theorem answer_pan {σ : List AO} {id : Nat} {x : E} {e : Int} (h : σ[id]? = some (.cells [x])) : ADef Tryz.prog 27 [.ptr id 0] σ (some (rfs e)) fun σ' => σ' = σ.set id (.cells [.t (vi e)]) := by
  refine ADef.walk a27 ?_
  unfold c27
  simp only [pxT, rfs, go_sem, Nat.reduceEqDiff, Bool.not_true, h]
theorem answer_none {σ : List AO} {a : E} : ADef Tryz.prog 27 [a] σ none fun σ' => σ' = σ := by
  refine ADef.walk a27 ?_
  unfold c27
  simp only [pxT, go_sem, Nat.reduceEqDiff, Bool.not_true]
def p1 (n : Nat) : Nat := (n / 2 &&& 85) + (n &&& 85)
def p2 (n : Nat) : Nat := (n / 4 &&& 51) + (n &&& 51)
def p3 (n : Nat) : Nat := (n / 16 + n) &&& 15
theorem dec256 {p : Nat → Prop} [DecidablePred p] (h : ((List.range 256).all fun n => decide (p n)) = true) (n : Nat) (hn : n < 256) : p n := by
  have := List.all_eq_true.mp h n (List.mem_range.mpr hn)
  simpa using this
theorem p1_ok : ∀ n : Nat, n < 256 → IntKind.u64.wrap (bits .and .u64 ((n : Int).fdiv (2 ^ min 1 64)) 6148914691236517205 + bits .and .u64 (n : Int) 6148914691236517205) = (p1 n : Int) :=
  dec256 (by decide +kernel)
theorem p2_ok : ∀ n : Nat, n < 256 → IntKind.u64.wrap (bits .and .u64 ((n : Int).fdiv (2 ^ min 2 64)) 3689348814741910323 + bits .and .u64 (n : Int) 3689348814741910323) = (p2 n : Int) :=
  dec256 (by decide +kernel)
theorem dec69 {p : Nat → Prop} [DecidablePred p] (h : ((List.range 69).all fun n => decide (p n)) = true) (n : Nat) (hn : n < 69) : p n := by
  have := List.all_eq_true.mp h n (List.mem_range.mpr hn)
  simpa using this
theorem p3_ok : ∀ n : Nat, n < 69 → bits .and .u64 (IntKind.u64.wrap ((n : Int).fdiv (2 ^ min 4 64) + (n : Int))) 1085102592571150095 = (p3 n : Int) :=
  dec69 (by decide +kernel)
theorem p4_ok : ∀ n : Nat, n < 69 → bits .and .i64 (IntKind.i64.wrap (IntKind.u64.wrap (IntKind.u64.wrap (IntKind.u64.wrap ((n : Int) + (n : Int).fdiv (2 ^ min 8 64)) + (IntKind.u64.wrap ((n : Int) + (n : Int).fdiv (2 ^ min 8 64))).fdiv (2 ^ min 16 64)) + (IntKind.u64.wrap (IntKind.u64.wrap ((n : Int) + (n : Int).fdiv (2 ^ min 8 64)) + (IntKind.u64.wrap ((n : Int) + (n : Int).fdiv (2 ^ min 8 64))).fdiv (2 ^ min 16 64))).fdiv (2 ^ min 32 64)))) 127 = (n : Int) :=
  dec69 (by decide +kernel)
theorem p5_ok : ∀ n : Nat, n < 256 → p1 n < 256 ∧ p2 (p1 n) < 69 ∧ p3 (p2 (p1 n)) < 69 ∧ p3 (p2 (p1 n)) = size n :=
  dec256 (by decide +kernel)
def lowF : Nat → Nat → Nat
  | 0, _ => 0
  | k + 1, n => if n % 2 = 1 then 1 + lowF k (n / 2) else 0
def dB (k : Nat) : Nat := (2 ^ k * 285870213051353865 % 18446744073709551616) / 288230376151711744
theorem dec512 {p : Nat → Prop} [DecidablePred p] (h : ((List.range 512).all fun n => decide (p n)) = true) (n : Nat) (hn : n < 512) : p n := by
  have := List.all_eq_true.mp h n (List.mem_range.mpr hn)
  simpa using this
theorem dB_ok : ∀ m : Nat, m < 512 → (IntKind.u64.wrap (bits .and .u64 (18446744073709551615 - (m : Int)) (IntKind.u64.wrap (0 - (18446744073709551615 - (m : Int)))) * 285870213051353865)).fdiv (2 ^ min 58 64) = (dB (lowF 64 m) : Int) ∧ lowF 64 m < 10 :=
  dec512 (by decide +kernel)
open Go Go.Ab
def c58g (m : Int) (tb : T) : AC :=
 .seq (.reg [⟨(some 2), none, .mov (.lit (.int .i64 0))⟩])
 (.seq (.seq (.reg [⟨(some 3), none, .mov (.tmp 0)⟩,
     ⟨(some 4), none, .bin .eql (.tmp 3) (.lit (.int .u64 0))⟩])
  (.cond (.tmp 4) (.seq (.reg [⟨(some 2), none, .mov (.lit (.int .i64 64))⟩])
   (.ret))
    (.skip)))
 (.seq (.reg [⟨(some 5), none, .mov (.tmp 0)⟩,
    ⟨(some 6), none, .mov (.tmp 0)⟩,
    ⟨(some 7), none, .un .neg (.tmp 6)⟩,
    ⟨(some 8), none, .bin .and (.tmp 5) (.tmp 7)⟩,
    ⟨(some 9), none, .bin .mul (.tmp 8) (.lit (.int .u64 m))⟩,
    ⟨(some 10), none, .bin .shr (.tmp 9) (.lit (.int .u64 58))⟩,
    ⟨(some 11), none, .iaddrA 64 1 (.tr (.ptr tb 0)) (.tmp 10)⟩,
    ⟨(some 12), none, .load false 1 (.tmp 11)⟩,
    ⟨(some 13), none, .conv .i64 (.tmp 12)⟩,
    ⟨(some 2), none, .mov (.tmp 13)⟩])
 (.ret)))
theorem c58_g : c58 = c58g 285870213051353865 (tabT tab64) := rfl
theorem tz_gen (m : Int) (cs : List T) (x : Int) (k j : Nat) (n2 : (x == 0) = false) (hj : j < 64) (hcs : cs[j]? = some (.lit (.int .u8 k))) (hk : k < 256)
    (d1 : (IntKind.u64.wrap (bits .and .u64 x (IntKind.u64.wrap (0 - x)) * m)).fdiv (2 ^ min 58 64) = (j : Int)) :
    @awpL { P := Tryz.prog, nb := 0, pn := [] } ⟨c58g m (.agg cs)⟩ ⟨fun e s => @finL 0 0 ⟨[.tmp 2]⟩ ⟨ret (vi k)⟩ e s⟩ { env := argEnv 0 [.t (.lit (.int .u64 x))], σ := [], df := [], k := 0 } := by
  unfold c58g
  have hw : IntKind.i64.wrap (k : Int) = k := wrap_id (by omega) (by omega)
  simp only [go_sem, Nat.reduceEqDiff, Int.reduceToNat, Int.reduceLT, n2, d1, Nat.mul_one, hcs, hw]
  refine ⟨by omega, ?_⟩
  exact finL_ret [] ⟨rfl, rfl, rfl, rfl, _, rfl, res_mk rfl⟩
theorem tab64_at : ∀ k : Nat, k < 10 → dB k < 64 ∧ tab64[dB k]? = some k := by
  intro k hk
  have : k = 0 ∨ k = 1 ∨ k = 2 ∨ k = 3 ∨ k = 4 ∨ k = 5 ∨ k = 6 ∨ k = 7 ∨ k = 8 ∨ k = 9 := by omega
  rcases this with rfl | rfl | rfl | rfl | rfl | rfl | rfl | rfl | rfl | rfl <;> decide +kernel
open Go Go.Ab
structure Hr where
  lo : Int
  hi : Int
  th : Int
structure Sn where
  h : Int
  up : Bool
structure Fl where
  low : Int
  high : Int
  quiet : Int
  hs : List Hr
  ss : List Sn
def tHr (h : Hr) : T := .agg [vi h.lo, vi h.hi, vi h.th]
def tSn (s : Sn) : T := .agg [vi s.h, vb s.up]
def fl5 (f : Fl) : List T := [vi f.low, vi f.high, vi f.quiet, .slice 3 (f.hs.map tHr), .slice 2 (f.ss.map tSn)]
def Hr.ok (h : Hr) : Bool := decide (0 ≤ h.lo) && decide (h.lo ≤ h.hi) && decide (h.hi ≤ 12) && wI h.th 0 2
def Fl.ok (f : Fl) : Bool := decide (1 ≤ f.low) && decide (f.low ≤ f.high) && decide (f.high ≤ 12) && wI f.quiet 1 4 && decide (f.hs.length ≤ 9) && decide (f.ss.length ≤ 8) &&
  f.hs.all Hr.ok && f.ss.all fun s => wI s.h 0 (f.hs.length - 1)
structure Fl.OK (f : Fl) : Prop where
  low : 1 ≤ f.low
  lh : f.low ≤ f.high
  high : f.high ≤ 12
  quiet : 1 ≤ f.quiet ∧ f.quiet ≤ 4
  nh : f.hs.length ≤ 9
  ns : f.ss.length ≤ 8
  hs : ∀ h ∈ f.hs, 0 ≤ h.lo ∧ h.lo ≤ h.hi ∧ h.hi ≤ 12 ∧ 0 ≤ h.th ∧ h.th ≤ 2
  ss : ∀ s ∈ f.ss, 0 ≤ s.h ∧ s.h < f.hs.length
theorem Fl.ok_iff (f : Fl) : f.ok = true ↔ f.OK := by
  unfold Fl.ok
  simp only [Bool.and_eq_true, decide_eq_true_eq, List.all_eq_true, Hr.ok, wI]
  constructor
  · rintro ⟨⟨⟨⟨⟨⟨⟨h1, h2⟩, h3⟩, h4⟩, h5⟩, h6⟩, h7⟩, h8⟩
    exact ⟨h1, h2, h3, h4, h5, h6, fun h hh => by have := h7 h hh; omega, fun s hs => by have := h8 s hs; omega⟩
  · rintro ⟨h1, h2, h3, h4, h5, h6, h7, h8⟩
    exact ⟨⟨⟨⟨⟨⟨⟨h1, h2⟩, h3⟩, h4⟩, h5⟩, h6⟩, fun h hh => by have := h7 h hh; omega⟩, fun s hs => by have := h8 s hs; omega⟩
def kBit (f : Fl) (n : Int) : Nat := if n ≥ f.high then 4 else if n < f.low then 1 else 2
def kAcc (f : Fl) (lo : Int) : Nat → Nat
  | 0 => 0
  | j + 1 => kAcc f lo j ||| kBit f (lo + j)
def kindsN (f : Fl) (h : Hr) : Nat := (if h.th = 2 then 0 else kAcc f h.lo (h.hi - h.lo + 1).toNat) ||| (if h.th = 0 then 0 else 4)
theorem kBit_lt (f : Fl) (n : Int) : kBit f n < 8 := by
  unfold kBit
  repeat' split
  all_goals decide
theorem kAcc_lt (f : Fl) (lo : Int) : ∀ j, kAcc f lo j < 8
  | 0 => by simp [kAcc]
  | j + 1 => Nat.or_lt_two_pow (n := 3) (kAcc_lt f lo j) (kBit_lt f _)
theorem kindsN_lt (f : Fl) (h : Hr) : kindsN f h < 8 := by
  unfold kindsN
  refine Nat.or_lt_two_pow (n := 3) ?_ ?_
  · split
    · decide
    · exact kAcc_lt _ _ _
  · split <;> decide
set_option maxRecDepth 4000 in
theorem kindsOf_ok (f : Fl) (h : Hr) (hh : 0 ≤ h.lo ∧ h.lo ≤ h.hi ∧ h.hi ≤ 12 ∧ 0 ≤ h.th ∧ h.th ≤ 2) : ACall Tryz.prog 51 [.t (.agg (fl5 f)), .t (tHr h)] [] (ret (vi (kindsN f h))) := by
  refine ACall.walk k51 ?_
  unfold c51 fl5 tHr
  obtain ⟨lo, hi, th⟩ := h
  simp only at hh
  have hNat : ∀ n : Nat, n < 8 → bits .or .i64 (n : Int) 4 = ((n ||| 4 : Nat) : Int) ∧ bits .or .i64 (n : Int) 1 = ((n ||| 1 : Nat) : Int) ∧ bits .or .i64 (n : Int) 2 = ((n ||| 2 : Nat) : Int) := fun n hn =>
    ⟨bits_or (b := 4) (by omega) (by omega), bits_or (b := 1) (by omega) (by omega), bits_or (b := 2) (by omega) (by omega)⟩
  simp only [go_sem, Nat.reduceEqDiff, Nat.reduceAdd, Nat.reduceLeDiff]
  refine awpL_loopK (hi - lo + 1).toNat (fun j s => (th = 2 → j = 0) ∧ s = { env := [(5, .t (vi (lo + j))), (4, .t (vi (kAcc f lo j : Nat))), (2, .ptr 0 0), (3, .ptr 1 0)], σ := [.cells [.t (vi f.low), .t (vi f.high), .t (vi f.quiet), .t (.slice 3 (f.hs.map tHr)), .t (.slice 2 (f.ss.map tSn))], .cells [.t (vi lo), .t (vi hi), .t (vi th)]] }) ?_ ?_
  · refine ⟨_, Sub.gc [0, 1] [5, 4, 2, 3] rfl rfl, fun _ => rfl, ?_⟩
    rw [show lo + ((0 : Nat) : Int) = lo by simp]
    rfl
  rintro j s hj ⟨hth, rfl⟩
  have hacc := kAcc_lt f lo j
  obtain ⟨b1, b2, b3⟩ := hNat _ hacc
  have hfin : ∀ (m : Nat) , m < 8 → bits .or .i64 (m : Int) 4 = ((m ||| 4 : Nat) : Int) := fun m hm => (hNat m hm).1
  simp only [go_sem, Nat.reduceEqDiff, Nat.reduceAdd, Nat.reduceLeDiff]
  refine BrL.mk (fun h1 => ?_) (fun h1 => ?_)
  · simp only [go_sem, Nat.reduceEqDiff, Nat.reduceAdd, beq_self_eq_true, h1]
    have h1' : lo + (j : Int) ≤ hi := by simpa using h1
    refine BrL.mk (fun h2 => ?_) (fun h2 => ?_)
    · have h2' : ¬ th = 2 := by simpa using h2
      have hw : IntKind.i64.wrap (lo + (j : Int) + 1) = lo + ((j + 1 : Nat) : Int) := by rw [wrap_id (by omega) (by omega)]; omega
      simp only [go_sem, Nat.reduceEqDiff, Nat.reduceAdd, Nat.reduceLeDiff, h2]
      refine BrL.mk (fun h3 => ?_) (fun h3 => ?_)
      · have hk : kBit f (lo + j) = 4 := by unfold kBit; rw [if_pos (by simpa using h3)]
        simp only [go_sem, Nat.reduceEqDiff, h3, b1, hw]
        exact ⟨by omega, _, Sub.gc [0, 1] [5, 4, 2, 3] rfl rfl, fun e => absurd e h2', by simp only [kAcc, hk]; rfl⟩
      · simp only [go_sem, Nat.reduceEqDiff, Nat.reduceAdd, Nat.reduceLeDiff, h3]
        refine BrL.mk (fun h4 => ?_) (fun h4 => ?_)
        · have hk : kBit f (lo + j) = 1 := by unfold kBit; rw [if_neg (by simpa using h3), if_pos (by simpa using h4)]
          simp only [go_sem, Nat.reduceEqDiff, h4, b2, hw]
          exact ⟨by omega, _, Sub.gc [0, 1] [5, 4, 2, 3] rfl rfl, fun e => absurd e h2', by simp only [kAcc, hk]; rfl⟩
        · have hk : kBit f (lo + j) = 2 := by unfold kBit; rw [if_neg (by simpa using h3), if_neg (by simpa using h4)]
          simp only [go_sem, Nat.reduceEqDiff, h4, b3, hw]
          exact ⟨by omega, _, Sub.gc [0, 1] [5, 4, 2, 3] rfl rfl, fun e => absurd e h2', by simp only [kAcc, hk]; rfl⟩
    · have h2' : th = 2 := by simpa using h2
      subst h2'
      have hj0 := hth rfl
      subst hj0
      simp only [go_sem, Nat.reduceEqDiff, Nat.reduceAdd, Int.reduceBNe, bne_self_eq_false, b1]
      exact finL_ret [] ⟨rfl, rfl, rfl, rfl, _, rfl, res_mk rfl⟩
  · have h1' : ¬ lo + (j : Int) ≤ hi := by simpa using h1
    have hn : ¬ th = 2 := fun e => by have := hth e; omega
    obtain rfl : j = (hi - lo + 1).toNat := by omega
    simp only [go_sem, Nat.reduceEqDiff, Nat.reduceAdd, undef, h1]
    refine BrL.mk (fun h3 => ?_) (fun h3 => ?_)
    · have h3' : ¬ th = 0 := by simpa using h3
      simp only [go_sem, Nat.reduceEqDiff, h3, b1]
      exact finL_ret [] ⟨rfl, rfl, rfl, rfl, _, rfl, res_mk (by simp only [kindsN, if_neg hn, if_neg h3']; rfl)⟩
    · have h3' : th = 0 := by simpa using h3
      simp only [go_sem, Nat.reduceEqDiff, h3]
      exact finL_ret [] ⟨rfl, rfl, rfl, rfl, _, rfl, res_mk (by simp only [kindsN, if_neg hn, if_pos h3', Nat.or_zero]; rfl)⟩
abbrev Pole := Bool × Int
def tPole (p : Pole) : T := .agg [vb p.1, vi p.2]
def hourF (quiet : Int) (p : Pole) (kind : Int) : Pole × Bool :=
  if kind = 2 then ((true, 0), true) else if p.1 = false ∨ kind = 1 then ((p.1, 0), p.1) else if p.2 + 1 = quiet then ((false, 0), true) else ((p.1, p.2 + 1), true)
theorem hour_ok (p : Pole) (kind quiet : Int) (hp : -9223372036854775808 ≤ p.2 ∧ p.2 < 9223372036854775807) : ACall Tryz.prog 118 [.t (tPole p), .t (vi kind), .t (vi quiet)] [] (res (.ret (.tup [.t (tPole (hourF quiet p kind).1), .t (vb (hourF quiet p kind).2)]))) := by
  refine ACall.walk k118 ?_
  unfold c118 tPole
  obtain ⟨up, calm⟩ := p
  have hw : IntKind.i64.wrap (calm + 1) = calm + 1 := wrap_id (by simp only at hp; omega) (by simp only at hp; omega)
  simp only [go_sem, Nat.reduceEqDiff, Nat.reduceAdd]
  refine BrL.mk (fun h1 => ?_) (fun h1 => ?_)
  · have h1' : kind = 2 := by simpa using h1
    simp only [go_sem, Nat.reduceEqDiff, Nat.reduceAdd, Nat.reduceLeDiff, undef, h1]
    exact finL_ret [] ⟨rfl, rfl, rfl, rfl, _, rfl, res_mk (by simp only [hourF, if_pos h1']; rfl)⟩
  · have h1' : ¬ kind = 2 := by simpa using h1
    simp only [go_sem, Nat.reduceEqDiff, Nat.reduceAdd, Nat.reduceLeDiff, h1]
    cases up
    · simp only [go_sem, Nat.reduceEqDiff, Nat.reduceAdd, Nat.reduceLeDiff, Bool.not_true, Bool.not_false, undef]
      exact finL_ret [] ⟨rfl, rfl, rfl, rfl, _, rfl, res_mk (by simp only [hourF, if_neg h1']; rfl)⟩
    · simp only [go_sem, Nat.reduceEqDiff, Bool.not_true, Bool.not_false, beq_self_eq_true]
      refine BrL.mk (fun h2 => ?_) (fun h2 => ?_)
      · have h2' : kind = 1 := by simpa using h2
        simp only [go_sem, Nat.reduceEqDiff, Nat.reduceAdd, Nat.reduceLeDiff, undef, h2]
        exact finL_ret [] ⟨rfl, rfl, rfl, rfl, _, rfl, res_mk (by subst h2'; rfl)⟩
      · have h2' : ¬ kind = 1 := by simpa using h2
        simp only [go_sem, Nat.reduceEqDiff, Nat.reduceAdd, undef, h2, hw]
        refine BrL.mk (fun h3 => ?_) (fun h3 => ?_)
        · have h3' : calm + 1 = quiet := by simpa using h3
          simp only [go_sem, Nat.reduceEqDiff, Nat.reduceAdd, undef, h3]
          exact finL_ret [] ⟨rfl, rfl, rfl, rfl, _, rfl, res_mk (by simp only [hourF, if_neg h1', h2', h3']; rfl)⟩
        · have h3' : ¬ calm + 1 = quiet := by simpa using h3
          simp only [go_sem, Nat.reduceEqDiff, Nat.reduceAdd, undef, h3]
          exact finL_ret [] ⟨rfl, rfl, rfl, rfl, _, rfl, res_mk (by simp only [hourF, if_neg h1', h2', h3']; rfl)⟩
theorem has_ok (k n : Nat) (hk : k < 8) (hn : n < 3) : ACall Tryz.prog 117 [.t (vi k), .t (vi n)] [] (ret (vb (k.testBit n))) := by
  refine ACall.walk k117 ?_
  unfold c117
  simp only [go_sem, Nat.reduceEqDiff, nat_neg, bit_eq (show k < 9223372036854775808 by omega)]
  exact finL_ret [] ⟨rfl, rfl, rfl, rfl, _, rfl, res_mk rfl⟩
open Go Go.Ab
theorem splice_one {α : Type} (cs : List α) (n : Nat) (v : α) (h : n < cs.length) : splice cs n [v] = cs.set n v := by
  unfold splice
  simp only [List.length_singleton, List.append_assoc, List.singleton_append]
  rw [List.set_eq_take_append_cons_drop, if_pos h]
def arr9 {α : Type} (g : Nat → α) : List α := [g 0, g 1, g 2, g 3, g 4, g 5, g 6, g 7, g 8]
theorem arr9_len {α : Type} (g : Nat → α) : (arr9 g).length = 9 := rfl
theorem arr9_get {α : Type} (g : Nat → α) {i : Nat} (h : i < 9) : (arr9 g)[i]? = some (g i) := by
  have : i = 0 ∨ i = 1 ∨ i = 2 ∨ i = 3 ∨ i = 4 ∨ i = 5 ∨ i = 6 ∨ i = 7 ∨ i = 8 := by omega
  rcases this with rfl | rfl | rfl | rfl | rfl | rfl | rfl | rfl | rfl <;> rfl
def upd {α : Type} (g : Nat → α) (n : Nat) (v : α) : Nat → α := fun i => if i = n then v else g i
theorem arr9_set {α β : Type} (t : β → α) (g : Nat → β) {n : Nat} (h : n < 9) (v : β) : (arr9 fun i => t (g i)).set n (t v) = arr9 fun i => t (upd g n v i) := by
  have : n = 0 ∨ n = 1 ∨ n = 2 ∨ n = 3 ∨ n = 4 ∨ n = 5 ∨ n = 6 ∨ n = 7 ∨ n = 8 := by omega
  rcases this with rfl | rfl | rfl | rfl | rfl | rfl | rfl | rfl | rfl <;> rfl
def cellsE (f : Fl) (K : Nat → Nat) (U D : Nat → Bool) : List E := (fl5 f).map .t ++ (arr9 (fun i => .t (vi (K i))) ++ (arr9 (fun i => .t (vb (U i))) ++ arr9 fun i => .t (vb (D i))))
theorem cellsE_len (f : Fl) (K : Nat → Nat) (U D : Nat → Bool) : (cellsE f K U D).length = 32 := rfl
theorem cells_K (f : Fl) (K : Nat → Nat) (U D : Nat → Bool) {n : Nat} (h : n < 9) (v : Nat) : List.take (5 + n) (cellsE f K U D) ++ [.t (vi v)] ++ List.drop (5 + n + 1) (cellsE f K U D) = cellsE f (upd K n v) U D := by
  refine (splice_one _ _ _ (by rw [cellsE_len]; omega)).trans ?_
  unfold cellsE
  rw [List.set_append_right _ _ (by simp [fl5]), List.set_append_left _ _ (by simp [fl5, arr9_len]; omega)]
  rw [show 5 + n - ((fl5 f).map E.t).length = n by simp [fl5], arr9_set (fun k : Nat => E.t (vi k)) K h v]
theorem cells_U (f : Fl) (K : Nat → Nat) (U D : Nat → Bool) {n : Nat} (h : n < 9) (v : Bool) : List.take (14 + n) (cellsE f K U D) ++ [.t (vb v)] ++ List.drop (14 + n + 1) (cellsE f K U D) = cellsE f K (upd U n v) D := by
  refine (splice_one _ _ _ (by rw [cellsE_len]; omega)).trans ?_
  unfold cellsE
  rw [List.set_append_right _ _ (by simp [fl5]; omega), List.set_append_right _ _ (by simp [fl5, arr9_len]; omega), List.set_append_left _ _ (by simp [fl5, arr9_len]; omega)]
  rw [show 14 + n - ((fl5 f).map E.t).length - (arr9 fun i => E.t (vi (K i))).length = n by simp [fl5, arr9_len]; omega, arr9_set (fun k : Bool => E.t (vb k)) U h v]
theorem cells_D (f : Fl) (K : Nat → Nat) (U D : Nat → Bool) {n : Nat} (h : n < 9) (v : Bool) : List.take (23 + n) (cellsE f K U D) ++ [.t (vb v)] ++ List.drop (23 + n + 1) (cellsE f K U D) = cellsE f K U (upd D n v) := by
  refine (splice_one _ _ _ (by rw [cellsE_len]; omega)).trans ?_
  unfold cellsE
  rw [List.set_append_right _ _ (by simp [fl5]; omega), List.set_append_right _ _ (by simp [fl5, arr9_len]; omega), List.set_append_right _ _ (by simp [fl5, arr9_len]; omega)]
  rw [show 23 + n - ((fl5 f).map E.t).length - (arr9 fun i => E.t (vi (K i))).length - (arr9 fun i => E.t (vb (U i))).length = n by simp [fl5, arr9_len]; omega, arr9_set (fun k : Bool => E.t (vb k)) D h v]
def said (up : Bool) (l : List Sn) (i : Nat) : Bool := l.any fun s => s.up == up && s.h == (i : Int)
theorem said_snoc (up : Bool) (l : List Sn) (s : Sn) (i : Nat) : said up (l ++ [s]) i = (said up l i || (s.up == up && s.h == (i : Int))) := by simp [said]
set_option maxRecDepth 4000 in
theorem see_ok (f : Fl) (K : Nat → Nat) (U D : Nat → Bool) (ss : List Sn) (hl : ss.length < 1000) (hs : ∀ s ∈ ss, 0 ≤ s.h ∧ s.h < 9) :
    ACall Tryz.prog 52 [.ptr 0 0, .t (.slice 2 (ss.map tSn))] [.cells (cellsE f K U D)] fun o σ' => o = .ret (.tup []) ∧ σ' = [.cells (cellsE f K (fun i => U i && !said false ss i) (fun i => D i && !said true ss i))] := by
  refine ACall.walk k52 ?_
  unfold c52
  simp only [go_sem, Nat.reduceEqDiff, List.length_map]
  refine awpL_for (i := 8) (L := 7) ss.length (fun k s => s = { env := [(8, .t (vi k)), (7, .t (vi ss.length)), (6, .t (.slice 2 (ss.map tSn))), (0, .ptr 0 0)], σ := [.cells (cellsE f K (fun i => U i && !said false (ss.take k) i) (fun i => D i && !said true (ss.take k) i))] }) ?_ ⟨_, Sub.gc [0] [8, 7, 6, 0] rfl rfl, ?_⟩ ?_ ?_
  · rintro k s rfl; exact ⟨rfl, rfl⟩
  · have e0 : ∀ (up : Bool) (U : Nat → Bool), (fun i => U i && !said up (ss.take 0) i) = U := fun up U => by funext i; simp [said]
    rw [e0, e0]
    rfl
  · rintro k s hk rfl
    have hg : ss[k]? = some ss[k] := List.getElem?_eq_getElem hk
    have hsk := hs _ (List.getElem_mem hk)
    have htk : ss.take (k + 1) = ss.take k ++ [ss[k]] := by rw [List.take_add_one, hg]; rfl
    generalize ss[k] = x at *
    obtain ⟨h, up⟩ := x
    obtain ⟨n, rfl⟩ : ∃ n : Nat, h = n := ⟨h.toNat, by simp only at hsk; omega⟩
    have hn : n < 9 := by simp only at hsk; omega
    have hw : IntKind.i64.wrap ((k : Int) + 1) = ((k + 1 : Nat) : Int) := by rw [wrap_id (by omega) (by omega)]; omega
    simp only [go_sem, Nat.reduceEqDiff, Nat.reduceAdd, undef, List.getElem?_map, hg, tSn]
    have e1 : ∀ (U : Nat → Bool) (v : Bool), (fun i => U i && !said v (ss.take (k + 1)) i) = if up = v then upd (fun i => U i && !said v (ss.take k) i) n false else fun i => U i && !said v (ss.take k) i := fun U v => by
      rw [htk]
      by_cases hv : up = v
      · rw [if_pos hv]
        funext i
        rw [said_snoc, hv]
        unfold upd
        by_cases hi : i = n
        · simp [hi]
        · have : ((n : Int) == (i : Int)) = false := by rw [beq_eq_false_iff_ne]; omega
          simp [hi, this]
      · rw [if_neg hv]
        funext i
        have : (up == v) = false := by simpa using hv
        rw [said_snoc, this]
        simp
    have hn' : (n : Int) < 9 := by omega
    cases up
    · have c1 : 14 + n ≤ 31 := by omega
      simp only [go_sem, Nat.reduceEqDiff, Nat.reduceAdd, Nat.reduceLeDiff, undef, cellsE_len, Nat.mul_one, c1, hn', cells_U f K _ _ hn false, hw]
      refine ⟨_, Sub.gc [0] [8, 7, 6, 0] rfl rfl, ?_⟩
      rw [e1, e1, if_pos rfl, if_neg (by decide)]
      rfl
    · have c1 : 23 + n ≤ 31 := by omega
      simp only [go_sem, Nat.reduceEqDiff, Nat.reduceAdd, Nat.reduceLeDiff, undef, cellsE_len, Nat.mul_one, c1, hn', cells_D f K _ _ hn false, hw]
      refine ⟨_, Sub.gc [0] [8, 7, 6, 0] rfl rfl, ?_⟩
      rw [e1, e1, if_pos rfl, if_neg (by decide)]
      rfl
  · rintro s rfl
    simp only [go_sem]
    refine finL_ret [0] ⟨rfl, rfl, rfl, rfl, _, rfl, rfl, ?_⟩
    simp only [List.take_length]
    rfl
theorem see_at (f : Fl) (K : Nat → Nat) (U D : Nat → Bool) (ss : List Sn) (hl : ss.length < 1000) (hs : ∀ s ∈ ss, 0 ≤ s.h ∧ s.h < 9) {p : Nat} {σ : List AO} {R : Lz (Out → List AO → Prop)} (hp : σ[p]? = some (.cells (cellsE f K U D)))
    (hk : R.get (.ret (.tup [])) (σ.set p (.cells (cellsE f K (fun i => U i && !said false ss i) (fun i => D i && !said true ss i))))) : @ACallL Tryz.prog 52 [.ptr p 0, .t (.slice 2 (ss.map tSn))] σ R := by
  have h := see_ok f K U D ss hl hs
  have hpl := (List.getElem?_eq_some_iff.1 hp).1
  have e0 : lendR [p] σ.length 0 = p := rfl
  have er : ∀ (ρ : Nat → Nat) (K : Nat → Nat) (U D : Nat → Bool), E.rens ρ (cellsE f K U D) = cellsE f K U D := fun ρ K U D => rfl
  refine ACall.mono (ACall.lend [p] h (by simp) (by simp; omega) rfl (fun i o ho => ?_) (args := [.ptr p 0, .t (.slice 2 (ss.map tSn))]) (by simp [E.rens_map, E.ren, e0])) ?_
  · match i, ho with
    | 0, ho => simp at ho; subst ho; simp only [AO.ren, er, e0, hp]
  · rintro o σ1 ⟨o0, σ0, ⟨rfl, rfl⟩, _, rfl, rfl⟩
    simp only [List.map_cons, List.map_nil, AO.ren, er, lendB, Out.ren, E.ren, List.append_nil, E.rens]
    exact hk
def cellsB (f : Fl) (K : Nat → Nat) (U D : Nat → Bool) : List T := fl5 f ++ (arr9 (fun i => vi (K i)) ++ (arr9 (fun i => vb (U i)) ++ arr9 fun i => vb (D i)))
def Kf (f : Fl) (i : Nat) : Nat := match f.hs[i]? with | some h => kindsN f h | none => 0
def Uf (f : Fl) (i : Nat) : Bool := decide (i < f.hs.length) && !said false f.ss i
def Df (f : Fl) (i : Nat) : Bool := decide (i < f.hs.length) && !said true f.ss i
def tBch (f : Fl) : T := .ptr (.agg (cellsB f (Kf f) (Uf f) (Df f))) 0
abbrev openO (f : Fl) (is : Bool) : Out := if f.ok then (if is then .ret (.t (tBch f)) else .pan (rfs 2)) else .pan (rfs 1)
set_option maxRecDepth 4000 in
theorem open_ok (f : Fl) (is : Bool) (hl : f.hs.length < 9223372036854775808 ∧ f.ss.length < 9223372036854775808) : ACall Tryz.prog 28 [.t (.agg (fl5 f)), .t (vb is)] [] (res (openO f is)) := by
  refine ACall.walk k28 ?_
  unfold c28
  refine awpL_chop 2 (c1 := ?a1) (c2 := ?a2) (fun s => 1 ≤ f.low ∧ f.low ≤ f.high ∧ f.high ≤ 12 ∧ (1 ≤ f.quiet ∧ f.quiet ≤ 4) ∧ f.hs.length ≤ 9 ∧ f.ss.length ≤ 8 ∧
    lk s.env 2 = .ptr 0 0 ∧ lk s.env 1 = .t (vb is) ∧ s.σ = [.cells ((fl5 f).map .t)] ∧ s.df = [] ∧ s.k = 0) ?hc ?_ ?_
  case hc => simp only [chop]; rfl
  · unfold fl5
    have bad : ¬ f.OK → openO f is = .pan (rfs 1) := fun h => by
      have : f.ok = false := by rw [← Bool.not_eq_true, f.ok_iff]; exact h
      simp only [openO, this]
      rfl
    simp only [go_sem, Nat.reduceEqDiff, Nat.reduceAdd, Nat.reduceLeDiff]
    refine BrL.mk (fun h1 => ?_) (fun h1 => ?_)
    rotate_left
    · simp only [go_sem, Nat.reduceEqDiff, undef, h1]
      refine ACallL.quiet1 (ask_ok false 1) rfl rfl rfl ?_
      simp only [askO, go_sem]
      exact finL_pan [] ⟨rfl, rfl, rfl, rfl, res_mk (bad fun k => by have := k.low; simp at h1; omega).symm⟩
    simp only [go_sem, Nat.reduceEqDiff, Nat.reduceAdd, Nat.reduceLeDiff, beq_self_eq_true, h1]
    refine BrL.mk (fun h2 => ?_) (fun h2 => ?_)
    rotate_left
    · simp only [go_sem, Nat.reduceEqDiff, undef, h2]
      refine ACallL.quiet1 (ask_ok false 1) rfl rfl rfl ?_
      simp only [askO, go_sem]
      exact finL_pan [] ⟨rfl, rfl, rfl, rfl, res_mk (bad fun k => by have := k.lh; simp at h2; omega).symm⟩
    simp only [go_sem, Nat.reduceEqDiff, Nat.reduceAdd, Nat.reduceLeDiff, beq_self_eq_true, h2]
    refine BrL.mk (fun h3 => ?_) (fun h3 => ?_)
    rotate_left
    · simp only [go_sem, Nat.reduceEqDiff, undef, h3]
      refine ACallL.quiet1 (ask_ok false 1) rfl rfl rfl ?_
      simp only [askO, go_sem]
      exact finL_pan [] ⟨rfl, rfl, rfl, rfl, res_mk (bad fun k => by have := k.high; simp at h3; omega).symm⟩
    simp only [go_sem, Nat.reduceEqDiff, Nat.reduceAdd, Nat.reduceLeDiff, beq_self_eq_true, h3]
    refine ACallL.quiet1 (within_ok _ _ _) rfl rfl rfl ?_
    simp only [go_sem, Nat.reduceEqDiff]
    refine BrL.mk (fun h4 => ?_) (fun h4 => ?_)
    rotate_left
    · simp only [go_sem, Nat.reduceEqDiff, undef, h4]
      refine ACallL.quiet1 (ask_ok false 1) rfl rfl rfl ?_
      simp only [askO, go_sem]
      exact finL_pan [] ⟨rfl, rfl, rfl, rfl, res_mk (bad fun k => by have := k.quiet; simp [wI] at h4; omega).symm⟩
    simp only [go_sem, Nat.reduceEqDiff, Nat.reduceAdd, Nat.reduceLeDiff, beq_self_eq_true, h4, List.length_map]
    refine BrL.mk (fun h5 => ?_) (fun h5 => ?_)
    rotate_left
    · simp only [go_sem, Nat.reduceEqDiff, undef, h5]
      refine ACallL.quiet1 (ask_ok false 1) rfl rfl rfl ?_
      simp only [askO, go_sem]
      exact finL_pan [] ⟨rfl, rfl, rfl, rfl, res_mk (bad fun k => by have := k.nh; simp at h5; omega).symm⟩
    simp only [go_sem, Nat.reduceEqDiff, Nat.reduceAdd, beq_self_eq_true, h5, List.length_map]
    refine ACallL.quiet1 (ask_ok _ 1) rfl rfl (by simp only [askO]; split <;> rfl) ?_
    cases h6 : decide ((f.ss.length : Int) ≤ 8)
    · simp only [askO, go_sem]
      exact finL_pan [] ⟨rfl, rfl, rfl, rfl, res_mk (bad fun k => by have := k.ns; simp at h6; omega).symm⟩
    · simp only [askO, go_sem, Nat.reduceEqDiff]
      refine ⟨by simpa using h1, by simpa using h2, by simpa using h3, by simpa [wI] using h4, ?_, ?_⟩
      · simp at h5; omega
      · simp at h6; omega
  rintro ⟨env, σ, df, k⟩ ⟨v1, v2, v3, v4, v5, v6, q2, q1, hσ, hdf, hk⟩
  simp only at q2 q1 hσ hdf hk
  subst hσ hdf hk
  -- the hours
  refine awpL_chop 1 (c1 := ?b1) (c2 := ?b2) (fun s => (∀ h ∈ f.hs, Hr.ok h = true) ∧ lk s.env 2 = .ptr 0 0 ∧ lk s.env 1 = .t (vb is) ∧ s.σ = [.cells ((fl5 f).map .t)] ∧ s.df = [] ∧ s.k = 0) ?hc2 ?_ ?_
  case hc2 => simp only [chop]; rfl
  · unfold fl5
    simp only [go_sem, Nat.reduceEqDiff, Nat.reduceAdd, Nat.reduceLeDiff, q2, List.length_map]
    refine awpL_for (i := 48) (L := 47) f.hs.length (fun k s => (∀ h ∈ f.hs.take k, Hr.ok h = true) ∧ s = { env := [(48, .t (vi k)), (47, .t (vi f.hs.length)), (46, .t (.slice 3 (f.hs.map tHr))), (2, .ptr 0 0), (1, .t (vb is))], σ := [.cells ((fl5 f).map .t)] }) ?_ ⟨_, Sub.gc [0] [48, 47, 46, 2, 1] rfl rfl, by simp, ?_⟩ ?_ ?_
    · rintro k s ⟨_, rfl⟩; exact ⟨rfl, rfl⟩
    · exact St.gc_mk (by simp only [List.map_cons, List.map_nil, lk, Nat.reduceEqDiff, reduceIte, q2, q1]; rfl) rfl rfl rfl
    · rintro k s hk ⟨hK, rfl⟩
      have hg : f.hs[k]? = some f.hs[k] := List.getElem?_eq_getElem hk
      have htk : f.hs.take (k + 1) = f.hs.take k ++ [f.hs[k]] := by rw [List.take_add_one, hg]; rfl
      have hmem : f.hs[k] ∈ f.hs := List.getElem_mem hk
      have hw : IntKind.i64.wrap ((k : Int) + 1) = ((k + 1 : Nat) : Int) := by rw [wrap_id (by omega) (by omega)]; omega
      generalize f.hs[k] = x at *
      obtain ⟨lo, hi, th⟩ := x
      have bad : Hr.ok ⟨lo, hi, th⟩ = false → openO f is = .pan (rfs 1) := fun h => by
        have : f.ok = false := by
          rw [← Bool.not_eq_true, f.ok_iff]
          intro k
          have := k.hs _ hmem
          rw [← Bool.not_eq_true] at h
          apply h
          simp only at this
          simp only [Hr.ok, wI, Bool.and_eq_true, decide_eq_true_eq]
          omega
        simp only [openO, this]
        rfl
      simp only [fl5, go_sem, Nat.reduceEqDiff, Nat.reduceAdd, Nat.reduceLeDiff, undef, List.getElem?_map, hg, tHr]
      refine BrL.mk (fun h1 => ?_) (fun h1 => ?_)
      rotate_left
      · simp only [go_sem, Nat.reduceEqDiff, undef, h1]
        refine ACallL.quiet1 (ask_ok false 1) rfl rfl rfl ?_
        simp only [askO, go_sem]
        exact finL_pan [] ⟨rfl, rfl, rfl, rfl, res_mk (bad (by simp only [Hr.ok, h1, Bool.false_and])).symm⟩
      simp only [go_sem, Nat.reduceEqDiff, Nat.reduceAdd, Nat.reduceLeDiff, beq_self_eq_true, h1]
      refine BrL.mk (fun h2 => ?_) (fun h2 => ?_)
      rotate_left
      · simp only [go_sem, Nat.reduceEqDiff, undef, h2]
        refine ACallL.quiet1 (ask_ok false 1) rfl rfl rfl ?_
        simp only [askO, go_sem]
        exact finL_pan [] ⟨rfl, rfl, rfl, rfl, res_mk (bad (by simp only [Hr.ok, h1, h2, Bool.and_false, Bool.false_and])).symm⟩
      simp only [go_sem, Nat.reduceEqDiff, Nat.reduceAdd, Nat.reduceLeDiff, beq_self_eq_true, h2]
      refine BrL.mk (fun h3 => ?_) (fun h3 => ?_)
      rotate_left
      · simp only [go_sem, Nat.reduceEqDiff, undef, h3]
        refine ACallL.quiet1 (ask_ok false 1) rfl rfl rfl ?_
        simp only [askO, go_sem]
        exact finL_pan [] ⟨rfl, rfl, rfl, rfl, res_mk (bad (by simp only [Hr.ok, h1, h2, h3, Bool.and_false, Bool.false_and])).symm⟩
      simp only [go_sem, Nat.reduceEqDiff, Nat.reduceAdd, beq_self_eq_true, h3]
      refine ACallL.quiet1 (within_ok _ _ _) rfl rfl rfl ?_
      simp only [go_sem, Nat.reduceEqDiff]
      refine ACallL.quiet1 (ask_ok _ 1) rfl rfl (by simp only [askO]; split <;> rfl) ?_
      cases h4 : wI th 0 2
      · simp only [askO, go_sem]
        exact finL_pan [] ⟨rfl, rfl, rfl, rfl, res_mk (bad (by simp only [Hr.ok, h4, Bool.and_false])).symm⟩
      · simp only [askO, go_sem, Nat.reduceEqDiff, hw]
        refine ⟨_, Sub.gc [0] [48, 47, 46, 2, 1] rfl rfl, ?_, rfl⟩
        intro h hh
        rw [htk] at hh
        rcases List.mem_append.1 hh with hh | hh
        · exact hK h hh
        · simp at hh
          subst hh
          simp only [Hr.ok, h1, h2, h3, h4, Bool.and_true]
    · rintro s ⟨hK, rfl⟩
      simp only [go_sem, Nat.reduceEqDiff]
      exact ⟨by simpa using hK, rfl⟩
  rintro ⟨env, σ, df, k⟩ ⟨v7, q2, q1, hσ, hdf, hk⟩
  simp only at q2 q1 hσ hdf hk
  subst hσ hdf hk
  -- what was seen
  refine awpL_chop 1 (c1 := ?d1) (c2 := ?d2) (fun s => (∀ s ∈ f.ss, wI s.h 0 (f.hs.length - 1) = true) ∧ lk s.env 2 = .ptr 0 0 ∧ lk s.env 1 = .t (vb is) ∧ s.σ = [.cells ((fl5 f).map .t)] ∧ s.df = [] ∧ s.k = 0) ?hc3 ?_ ?_
  case hc3 => simp only [chop]; rfl
  · unfold fl5
    simp only [go_sem, Nat.reduceEqDiff, Nat.reduceAdd, q2, List.length_map]
    refine awpL_for (i := 81) (L := 80) f.ss.length (fun k s => (∀ s ∈ f.ss.take k, wI s.h 0 (f.hs.length - 1) = true) ∧ s = { env := [(81, .t (vi k)), (80, .t (vi f.ss.length)), (79, .t (.slice 2 (f.ss.map tSn))), (2, .ptr 0 0), (1, .t (vb is))], σ := [.cells ((fl5 f).map .t)] }) ?_ ⟨_, Sub.gc [0] [81, 80, 79, 2, 1] rfl rfl, by simp, ?_⟩ ?_ ?_
    · rintro k s ⟨_, rfl⟩; exact ⟨rfl, rfl⟩
    · exact St.gc_mk (by simp only [List.map_cons, List.map_nil, lk, Nat.reduceEqDiff, reduceIte, q2, q1]; rfl) rfl rfl rfl
    · rintro k s hk ⟨hK, rfl⟩
      have hg : f.ss[k]? = some f.ss[k] := List.getElem?_eq_getElem hk
      have htk : f.ss.take (k + 1) = f.ss.take k ++ [f.ss[k]] := by rw [List.take_add_one, hg]; rfl
      have hmem : f.ss[k] ∈ f.ss := List.getElem_mem hk
      have hw : IntKind.i64.wrap ((k : Int) + 1) = ((k + 1 : Nat) : Int) := by rw [wrap_id (by omega) (by omega)]; omega
      have hw2 : IntKind.i64.wrap ((f.hs.length : Int) - 1) = f.hs.length - 1 := wrap_id (by omega) (by omega)
      generalize f.ss[k] = x at *
      obtain ⟨h, up⟩ := x
      have bad : wI h 0 (f.hs.length - 1) = false → openO f is = .pan (rfs 1) := fun hb => by
        have : f.ok = false := by
          rw [← Bool.not_eq_true, f.ok_iff]
          intro k
          have := k.ss _ hmem
          rw [← Bool.not_eq_true] at hb
          apply hb
          simp only at this
          simp only [wI, decide_eq_true_eq]
          omega
        simp only [openO, this]
        rfl
      simp only [fl5, go_sem, Nat.reduceEqDiff, Nat.reduceAdd, Nat.reduceLeDiff, undef, List.length_map, List.getElem?_map, hg, tSn, hw2]
      refine ACallL.quiet1 (within_ok _ _ _) rfl rfl rfl ?_
      simp only [go_sem, Nat.reduceEqDiff]
      refine ACallL.quiet1 (ask_ok _ 1) rfl rfl (by simp only [askO]; split <;> rfl) ?_
      cases h4 : wI h 0 (f.hs.length - 1)
      · simp only [askO, go_sem]
        exact finL_pan [] ⟨rfl, rfl, rfl, rfl, res_mk (bad h4).symm⟩
      · simp only [askO, go_sem, Nat.reduceEqDiff, hw]
        refine ⟨_, Sub.gc [0] [81, 80, 79, 2, 1] rfl rfl, ?_, rfl⟩
        intro h hh
        rw [htk] at hh
        rcases List.mem_append.1 hh with hh | hh
        · exact hK h hh
        · simp at hh
          subst hh
          exact h4
    · rintro s ⟨hK, rfl⟩
      simp only [go_sem, Nat.reduceEqDiff]
      exact ⟨by simpa using hK, rfl⟩
  rintro ⟨env, σ, df, k⟩ ⟨v8, q2, q1, hσ, hdf, hk⟩
  simp only at q2 q1 hσ hdf hk
  subst hσ hdf hk
  have hok : f.ok = true := by
    unfold Fl.ok
    simp only [Bool.and_eq_true, decide_eq_true_eq, List.all_eq_true]
    exact ⟨⟨⟨⟨⟨⟨⟨v1, v2⟩, v3⟩, by simpa [wI] using v4⟩, v5⟩, v6⟩, v7⟩, v8⟩
  have hOK := (f.ok_iff).1 hok
  unfold fl5
  simp only [go_sem, q1]
  refine ACallL.quiet1 (ask_ok _ 2) rfl rfl (by simp only [askO]; split <;> rfl) ?_
  cases is
  · simp only [askO, go_sem]
    exact finL_pan [] ⟨rfl, rfl, rfl, rfl, res_mk (by simp only [openO, hok]; rfl)⟩
  simp only [askO, go_sem, Nat.reduceEqDiff, Nat.reduceAdd, Nat.reduceLeDiff, q2, List.length_map]
  refine awpL_for (i := 102) (L := 101) f.hs.length (fun k s => s = { env := [(102, .t (vi k)), (101, .t (vi f.hs.length)), (100, .t (.slice 3 (f.hs.map tHr))), (9, .ptr 1 0), (2, .ptr 0 0)], σ := [.cells ((fl5 f).map .t), .cells (cellsE f (fun i => if i < k then Kf f i else 0) (fun i => decide (i < k)) (fun i => decide (i < k)))] }) ?_ ⟨_, Sub.gc [0, 1] [102, 101, 100, 9, 2] rfl rfl, ?_⟩ ?_ ?_
  · rintro k s rfl; exact ⟨rfl, rfl⟩
  · exact St.gc_mk (by simp only [List.map_cons, List.map_nil, lk, Nat.reduceEqDiff, reduceIte, q2]; rfl) rfl rfl rfl
  · rintro k s hk rfl
    have hg : f.hs[k]? = some f.hs[k] := List.getElem?_eq_getElem hk
    have hx := hOK.hs _ (List.getElem_mem hk)
    have hw : IntKind.i64.wrap ((k : Int) + 1) = ((k + 1 : Nat) : Int) := by rw [wrap_id (by omega) (by omega)]; omega
    have hKk : Kf f k = kindsN f f.hs[k] := by unfold Kf; rw [hg]
    have e1 : (fun i => if i < k + 1 then Kf f i else 0) = upd (fun i => if i < k then Kf f i else 0) k (Kf f k) := by
      funext i
      unfold upd
      by_cases hi : i = k
      · subst hi; simp
      · rw [if_neg hi]
        by_cases h2 : i < k
        · simp only [if_pos h2, if_pos (show i < k + 1 by omega)]
        · simp only [if_neg h2, if_neg (show ¬ i < k + 1 by omega)]
    have e2 : (fun i => decide (i < k + 1)) = upd (fun i => decide (i < k)) k true := by
      funext i
      unfold upd
      by_cases hi : i = k
      · subst hi; simp
      · rw [if_neg hi]
        exact decide_eq_decide.2 (by omega)
    generalize f.hs[k] = x at *
    have hk9 : k < 9 := by omega
    have hk9' : (k : Int) < 9 := by omega
    have c1 : 5 + k ≤ 31 := by omega
    have c2 : 14 + k ≤ 31 := by omega
    have c3 : 23 + k ≤ 31 := by omega
    have hx69 := kindsOf_ok f x hx
    rw [← hKk] at hx69
    obtain ⟨lo, hi, th⟩ := x
    simp only [fl5, tHr] at hx69
    simp only [fl5, go_sem, Nat.reduceEqDiff, Nat.reduceAdd, undef, List.getElem?_map, hg, tHr]
    refine ACallL.quiet1 hx69 rfl rfl rfl ?_
    have sK := fun K U D => cells_K f K U D hk9 (Kf f k)
    have sU := fun K U D => cells_U f K U D hk9 true
    have sD := fun K U D => cells_D f K U D hk9 true
    simp only [go_sem, Nat.reduceEqDiff, Nat.reduceAdd, Nat.reduceLeDiff, undef, cellsE_len, Nat.mul_one, c1, c2, c3, hk9', hw, sK, sU, sD]
    refine ⟨_, Sub.gc [0, 1] [102, 101, 100, 9, 2] rfl rfl, ?_⟩
    rw [e1, e2]
    rfl
  · rintro s rfl
    unfold fl5
    simp only [go_sem, Nat.reduceEqDiff, Nat.reduceAdd]
    refine see_at f _ _ _ f.ss (by omega) (fun s hs => by have := hOK.ss s hs; omega) (p := 1) rfl ?_
    simp only [go_sem, Nat.reduceEqDiff, List.set_cons_succ, List.set_cons_zero]
    refine finL_ret [] ⟨rfl, rfl, rfl, rfl, _, rfl, res_mk ?_⟩
    have eK : (fun i => if i < f.hs.length then Kf f i else 0) = Kf f := by
      funext i
      by_cases hi : i < f.hs.length
      · rw [if_pos hi]
      · rw [if_neg hi]; unfold Kf; rw [List.getElem?_eq_none (by omega)]
    rw [eK]
    simp only [openO, hok, if_true]
    rfl
open Go Go.Ab
theorem cellsB_K (f : Fl) (K : Nat → Nat) (U D : Nat → Bool) {h : Nat} (hh : h < 9) : (cellsB f K U D)[5 + h]? = some (vi (K h)) := by
  unfold cellsB
  rw [List.getElem?_append_right (by simp [fl5]), List.getElem?_append_left (by simp [fl5, arr9_len]; omega)]
  rw [show 5 + h - (fl5 f).length = h by simp [fl5], arr9_get _ hh]
theorem cellsB_U (f : Fl) (K : Nat → Nat) (U D : Nat → Bool) {h : Nat} (hh : h < 9) : (cellsB f K U D)[14 + h]? = some (vb (U h)) := by
  unfold cellsB
  rw [List.getElem?_append_right (by simp [fl5]; omega), List.getElem?_append_right (by simp [fl5, arr9_len]; omega), List.getElem?_append_left (by simp [fl5, arr9_len]; omega)]
  rw [show 14 + h - (fl5 f).length - (arr9 fun i => vi (K i)).length = h by simp [fl5, arr9_len]; omega, arr9_get _ hh]
theorem cellsB_D (f : Fl) (K : Nat → Nat) (U D : Nat → Bool) {h : Nat} (hh : h < 9) : (cellsB f K U D)[23 + h]? = some (vb (D h)) := by
  unfold cellsB
  rw [List.getElem?_append_right (by simp [fl5]; omega), List.getElem?_append_right (by simp [fl5, arr9_len]; omega), List.getElem?_append_right (by simp [fl5, arr9_len]; omega)]
  rw [show 23 + h - (fl5 f).length - (arr9 fun i => vi (K i)).length - (arr9 fun i => vb (U i)).length = h by simp [fl5, arr9_len]; omega, arr9_get _ hh]
theorem cellsB_2 (f : Fl) (K : Nat → Nat) (U D : Nat → Bool) : (cellsB f K U D)[2]? = some (vi f.quiet) := rfl
theorem cellsB_3 (f : Fl) (K : Nat → Nat) (U D : Nat → Bool) : (cellsB f K U D)[3]? = some (.slice 3 (f.hs.map tHr)) := rfl
theorem Kf_lt (f : Fl) (i : Nat) : Kf f i < 8 := by
  unfold Kf
  split
  · exact kindsN_lt _ _
  · decide
abbrev Step := Pole × Bool × Nat
def tStep (s : Step) : T := .agg [vb s.1.1, vi s.1.2, vb s.2.1, vi s.2.2]
def vStep (s : Step) : Value := .agg #[.bool s.1.1, .int .i64 s.1.2, .bool s.2.1, .int .i64 s.2.2]
def stepAt (f : Fl) (p : Pole) (h k : Nat) : Option Step :=
  if (Kf f h).testBit k = true ∧ (if (hourF f.quiet p k).2 then Uf f h else Df f h) = true then some ((hourF f.quiet p k).1, (hourF f.quiet p k).2, k) else none
def stepsK (f : Fl) (p : Pole) (h : Nat) : Nat → List Step
  | 0 => []
  | j + 1 => stepsK f p h j ++ (stepAt f p h j).toList
def stepsL (f : Fl) (p : Pole) (h : Nat) : List Step := stepsK f p h 3
theorem stepsK_pre (f : Fl) (p : Pole) (h : Nat) : ∀ j, ∀ i, (stepsK f p h (j + i)).take (stepsK f p h j).length = stepsK f p h j
  | j, 0 => by simp
  | j, i + 1 => by
    have ih := stepsK_pre f p h j i
    show (stepsK f p h (j + i) ++ _).take _ = _
    have hl : (stepsK f p h j).length ≤ (stepsK f p h (j + i)).length := by
      have := congrArg List.length ih
      rw [List.length_take] at this
      omega
    rw [List.take_append_of_le_length hl, ih]
theorem stepsK_at (f : Fl) (p : Pole) (h j : Nat) (hj : j < 3) (s : Step) (e : stepAt f p h j = some s) : (stepsL f p h)[(stepsK f p h j).length]? = some s := by
  have h1 := stepsK_pre f p h (j + 1) (3 - (j + 1))
  rw [show j + 1 + (3 - (j + 1)) = 3 by omega] at h1
  have h2 : (stepsK f p h (j + 1))[(stepsK f p h j).length]? = some s := by
    show (stepsK f p h j ++ (stepAt f p h j).toList)[_]? = _
    rw [e]
    simp
  rw [← h1, List.getElem?_take] at h2
  split at h2
  · exact h2
  · cases h2
def tSteps (f : Fl) (p : Pole) (h : Nat) : T := .fn (.func 116) [] [.ptr (.agg [tBch f]) 0, .ptr (.agg [vi h]) 0, .ptr (tPole p) 0]
theorem steps_ok (f : Fl) (p : Pole) (h : Nat) : ACall Tryz.prog 109 [.t (tBch f), .t (tPole p), .t (vi h)] [] (ret (tSteps f p h)) := by
  refine ACall.walk k109 ?_
  unfold c109 tPole tBch
  simp only [go_sem, Nat.reduceEqDiff, Nat.reduceAdd]
  exact finL_ret [] ⟨rfl, rfl, rfl, rfl, _, rfl, res_mk rfl⟩
set_option maxRecDepth 4000 in
set_option maxHeartbeats 2000000 in
theorem steps_gen (f : Fl) (p : Pole) (h : Nat) (hh : h < 9) (hp : -9223372036854775808 ≤ p.2 ∧ p.2 < 9223372036854775807) : AGen Tryz.prog 116 [.yld, .t (.ptr (.agg [tBch f]) 0), .t (.ptr (.agg [vi h]) 0), .t (.ptr (tPole p) 0)] ((stepsL f p h).map vStep) := by
  refine AGen.walk k116 ?_
  unfold c116
  have hh' : (h : Int) < 9 := by omega
  have hK := fun K U D => cellsB_K f K U D hh
  have hU := fun K U D => cellsB_U f K U D hh
  have hD := fun K U D => cellsB_D f K U D hh
  simp only [tBch, tPole, go_sem, Nat.reduceEqDiff, Nat.reduceAdd, hh', Nat.mul_one, hK]
  refine awpL_forC (i := 18) 3 rfl (fun j s => s = { env := [(18, .t (vi j)), (0, .yld), (1, .t (.ptr (.agg [tBch f]) 0)), (2, .t (.ptr (.agg [vi h]) 0)), (3, .t (.ptr (tPole p) 0)), (5, .t (.fn (.func 117) [vi (Kf f h)] [])), (6, .t (.fn (.func 118) [] []))], σ := [], k := (stepsK f p h j).length }) ?_ ⟨_, Sub.gc [] [18, 0, 1, 2, 3, 5, 6] rfl rfl, rfl⟩ ?_ ?_
  · rintro k s rfl; rfl
  · rintro j s hj rfl
    have hw : IntKind.i64.wrap ((j : Int) + 1) = ((j + 1 : Nat) : Int) := by rw [wrap_id (by omega) (by omega)]; omega
    have hat : stepAt f p h j = if (Kf f h).testBit j = true ∧ (if (hourF f.quiet p j).2 then Uf f h else Df f h) = true then some ((hourF f.quiet p j).1, (hourF f.quiet p j).2, j) else none := rfl
    have hsucc : (stepsK f p h (j + 1)).length = (stepsK f p h j).length + if (stepAt f p h j).isSome then 1 else 0 := by
      show (_ ++ _ : List Step).length = _
      rw [List.length_append]
      cases stepAt f p h j <;> rfl
    have hyp := stepsK_at f p h j hj
    have h89 := hour_ok p j f.quiet hp
    generalize hourF f.quiet p j = r at *
    obtain ⟨⟨q1, q2⟩, up⟩ := r
    simp only [tPole] at h89
    simp only [tBch, tPole, go_sem, Nat.reduceEqDiff]
    refine ACallL.quiet1 (has_ok (Kf f h) j (Kf_lt f h) hj) rfl rfl rfl ?_
    cases hb : (Kf f h).testBit j
    · simp only [go_sem, Nat.reduceEqDiff, Bool.not_false, hw]
      refine ⟨_, Sub.gc [] [18, 0, 1, 2, 3, 5, 6] rfl rfl, ?_⟩
      have : stepAt f p h j = none := by rw [hat, hb]; simp
      rw [hsucc, this]
      rfl
    · simp only [go_sem, Nat.reduceEqDiff, Nat.reduceAdd, Bool.not_true, cellsB_2]
      refine AndL.mk ?_ ?_
      all_goals simp only [go_sem, Nat.reduceEqDiff, Nat.reduceAdd, cellsB_2]
      all_goals refine ACallL.quiet1 h89 rfl rfl rfl ?_
      all_goals cases up
      all_goals cases hd : Df f h
      all_goals cases hu : Uf f h
      all_goals rw [hb, hd, hu] at hat
      all_goals simp only [Bool.false_eq_true, if_false, if_true, and_false, and_self] at hat
      all_goals rw [hat] at hsucc
      all_goals simp only [Option.isSome_none, Option.isSome_some, Bool.false_eq_true, if_false, if_true] at hsucc
      all_goals simp only [go_sem, Nat.reduceEqDiff, Nat.reduceAdd, Nat.reduceLeDiff, Bool.not_true, Bool.not_false, undef, beq_self_eq_true, hw, hh', Nat.mul_one, hU, hD, cellsB_2, hd, hu]
      all_goals first
        | exact ⟨_, Sub.gc [] [18, 0, 1, 2, 3, 5, 6] rfl rfl, by rw [hsucc]; rfl⟩
        | exact ⟨by rw [List.getElem?_map, hyp _ hat]; rfl, _, Sub.gc [] [18, 0, 1, 2, 3, 5, 6] rfl rfl, by rw [hsucc]; rfl⟩
  · rintro s rfl
    simp only [go_sem]
    refine finL_ret [] ⟨rfl, ?_, rfl, rfl, _, rfl, ?_⟩
    · simp [stepsL]
    · exact ⟨_, rfl⟩
open Go Go.Ab
inductive Tl where
  | flown (a b : Int)
  | only (h k : Int)
def tTl : Tl → T
  | .flown a b => .iface 126 (.agg [vi a, vi b])
  | .only h k => .iface 123 (.agg [vi h, vi k])
def Tl.cnt : Tl → Step → Nat → Nat
  | .flown a b, s, h => if s.2.1 = true ∧ a ≤ (h : Int) ∧ (h : Int) < b then 1 else 0
  | .only a k, s, h => if (h : Int) = a ∧ (s.2.2 : Int) ≠ k then 0 else 1
theorem Tl.cnt_le (t : Tl) (s : Step) (h : Nat) : t.cnt s h ≤ 1 := by cases t <;> simp only [Tl.cnt] <;> split <;> decide
theorem flown_ok (a b : Int) (s : Step) (h : Nat) : ACall Tryz.prog 137 [.t (.agg [vi a, vi b]), .t (tStep s), .t (vi h)] [] (ret (vi ((Tl.flown a b).cnt s h : Nat))) := by
  refine ACall.walk k137 ?_
  unfold c137
  obtain ⟨⟨q1, q2⟩, up, k⟩ := s
  simp only [tStep, go_sem, Nat.reduceEqDiff, Nat.reduceAdd, Nat.reduceLeDiff]
  cases up
  · simp only [go_sem, Nat.reduceEqDiff, undef]
    exact finL_ret [] ⟨rfl, rfl, rfl, rfl, _, rfl, res_mk (by simp only [Tl.cnt]; rfl)⟩
  · simp only [go_sem, Nat.reduceEqDiff, Nat.reduceAdd, Nat.reduceLeDiff, beq_self_eq_true]
    refine BrL.mk (fun h1 => ?_) (fun h1 => ?_)
    · have h1' : a ≤ (h : Int) := by simpa using h1
      simp only [go_sem, Nat.reduceEqDiff, Nat.reduceAdd, beq_self_eq_true, h1]
      refine BrL.mk (fun h2 => ?_) (fun h2 => ?_)
      · have h2' : (h : Int) < b := by simpa using h2
        simp only [go_sem, h2]
        exact finL_ret [] ⟨rfl, rfl, rfl, rfl, _, rfl, res_mk (by simp only [Tl.cnt, h1', h2', and_self, if_true]; rfl)⟩
      · have h2' : ¬ (h : Int) < b := by simpa using h2
        simp only [go_sem, h2]
        exact finL_ret [] ⟨rfl, rfl, rfl, rfl, _, rfl, res_mk (by simp only [Tl.cnt, h2', and_false, if_false]; rfl)⟩
    · have h1' : ¬ a ≤ (h : Int) := by simpa using h1
      simp only [go_sem, Nat.reduceEqDiff, undef, h1]
      exact finL_ret [] ⟨rfl, rfl, rfl, rfl, _, rfl, res_mk (by simp only [Tl.cnt, h1', and_false, false_and, if_false]; rfl)⟩
theorem only_ok (a k : Int) (s : Step) (h : Nat) : ACall Tryz.prog 136 [.t (.agg [vi a, vi k]), .t (tStep s), .t (vi h)] [] (ret (vi ((Tl.only a k).cnt s h : Nat))) := by
  refine ACall.walk k136 ?_
  unfold c136
  obtain ⟨⟨q1, q2⟩, up, kd⟩ := s
  simp only [tStep, go_sem, Nat.reduceEqDiff, Nat.reduceAdd, Nat.reduceLeDiff]
  refine BrL.mk (fun h1 => ?_) (fun h1 => ?_)
  · have h1' : (h : Int) = a := by simpa using h1
    simp only [go_sem, Nat.reduceEqDiff, Nat.reduceAdd, beq_self_eq_true, h1]
    refine BrL.mk (fun h2 => ?_) (fun h2 => ?_)
    · have h2' : (kd : Int) ≠ k := by simpa using h2
      simp only [go_sem, h2]
      exact finL_ret [] ⟨rfl, rfl, rfl, rfl, _, rfl, res_mk (by simp only [Tl.cnt, h1', h2', ne_eq, not_false_eq_true, and_self, if_true]; rfl)⟩
    · have h2' : (kd : Int) = k := by simpa using h2
      simp only [go_sem, h2]
      exact finL_ret [] ⟨rfl, rfl, rfl, rfl, _, rfl, res_mk (by simp only [Tl.cnt, h2', ne_eq, not_true, and_false, if_false]; rfl)⟩
  · have h1' : ¬ (h : Int) = a := by simpa using h1
    simp only [go_sem, Nat.reduceEqDiff, undef, h1]
    exact finL_ret [] ⟨rfl, rfl, rfl, rfl, _, rfl, res_mk (by simp only [Tl.cnt, h1', false_and, if_false]; rfl)⟩
theorem stepI_ok (tl : Tl) (s : Step) (h : Nat) (r : Int) (hr : 0 ≤ r ∧ r < 1000000) : ACall Tryz.prog 85 [.t (tStep s), .t (vi h), .t (vi r), .t (.ptr (.agg [tTl tl]) 0)] [] (ret (vi (r * (tl.cnt s h : Nat)))) := by
  refine ACall.walk k85 ?_
  unfold c85
  have hc := tl.cnt_le s h
  have hw : IntKind.i64.wrap (r * ((tl.cnt s h : Nat) : Int)) = r * ((tl.cnt s h : Nat) : Int) := by
    have : tl.cnt s h = 0 ∨ tl.cnt s h = 1 := by omega
    rcases this with e | e <;> rw [e] <;> exact wrap_id (by omega) (by omega)
  have hts : ∀ s : Step, tStep s = .agg [vb s.1.1, vi s.1.2, vb s.2.1, vi s.2.2] := fun _ => rfl
  cases tl with
  | flown a b =>
    have h1 := flown_ok a b s h
    rw [hts] at h1 ⊢
    simp only [tTl, go_sem, Nat.reduceEqDiff, Nat.reduceAdd, mfind]
    refine ACallL.quiet1 h1 rfl rfl rfl ?_
    simp only [go_sem, Nat.reduceEqDiff, hw]
    exact finL_ret [] ⟨rfl, rfl, rfl, rfl, _, rfl, res_mk rfl⟩
  | only a b =>
    have h1 := only_ok a b s h
    rw [hts] at h1 ⊢
    simp only [tTl, go_sem, Nat.reduceEqDiff, Nat.reduceAdd, mfind]
    refine ACallL.quiet1 h1 rfl rfl rfl ?_
    simp only [go_sem, Nat.reduceEqDiff, hw]
    exact finL_ret [] ⟨rfl, rfl, rfl, rfl, _, rfl, res_mk rfl⟩
theorem joinI_ok (a b : Int) (ha : 0 ≤ a ∧ a < 1000000) (hb : 0 ≤ b ∧ b < 1000000) : ACall Tryz.prog 86 [.t (vi a), .t (vi b)] [] (ret (vi (a + b))) := by
  refine ACall.walk k86 ?_
  unfold c86
  have hw : IntKind.i64.wrap (a + b) = a + b := wrap_id (by omega) (by omega)
  simp only [go_sem, Nat.reduceEqDiff, hw]
  exact finL_ret [] ⟨rfl, rfl, rfl, rfl, _, rfl, res_mk rfl⟩
abbrev tSp (s : Int × Int) : T := .agg [vi s.1, vi s.2]
theorem stepS_ok (tl : Tl) (s : Step) (h : Nat) (lo hi : Int) (hr : 0 ≤ lo ∧ lo < 1000000 ∧ 0 ≤ hi ∧ hi < 1000000) :
    ACall Tryz.prog 88 [.t (tStep s), .t (vi h), .t (.agg [vi lo, vi hi]), .t (.ptr (.agg [tTl tl]) 0)] [] (ret (.agg [vi (lo + (tl.cnt s h : Nat)), vi (hi + (tl.cnt s h : Nat))])) := by
  refine ACall.walk k88 ?_
  unfold c88
  have hc := tl.cnt_le s h
  have hw1 : IntKind.i64.wrap (lo + ((tl.cnt s h : Nat) : Int)) = lo + ((tl.cnt s h : Nat) : Int) := wrap_id (by omega) (by omega)
  have hw2 : IntKind.i64.wrap (hi + ((tl.cnt s h : Nat) : Int)) = hi + ((tl.cnt s h : Nat) : Int) := wrap_id (by omega) (by omega)
  have hts : ∀ s : Step, tStep s = .agg [vb s.1.1, vi s.1.2, vb s.2.1, vi s.2.2] := fun _ => rfl
  cases tl with
  | flown a b =>
    have h1 := flown_ok a b s h
    rw [hts] at h1 ⊢
    simp only [tTl, go_sem, Nat.reduceEqDiff, Nat.reduceAdd, mfind]
    refine ACallL.quiet1 h1 rfl rfl rfl ?_
    simp only [go_sem, Nat.reduceEqDiff, Nat.reduceAdd, Nat.reduceLeDiff, undef, hw1, hw2]
    exact finL_ret [] ⟨rfl, rfl, rfl, rfl, _, rfl, res_mk rfl⟩
  | only a b =>
    have h1 := only_ok a b s h
    rw [hts] at h1 ⊢
    simp only [tTl, go_sem, Nat.reduceEqDiff, Nat.reduceAdd, mfind]
    refine ACallL.quiet1 h1 rfl rfl rfl ?_
    simp only [go_sem, Nat.reduceEqDiff, Nat.reduceAdd, Nat.reduceLeDiff, undef, hw1, hw2]
    exact finL_ret [] ⟨rfl, rfl, rfl, rfl, _, rfl, res_mk rfl⟩
def hiG : List Int → Int
  | [] => 0
  | x :: l => l.foldl max x
theorem hiG_snoc (l : List Int) (x : Int) : hiG (l ++ [x]) = if l = [] ∨ x > hiG l then x else hiG l := by
  cases l with
  | nil => rfl
  | cons y l =>
    simp only [List.cons_append, hiG, List.foldl_append, List.foldl_cons, List.foldl_nil, reduceCtorEq, false_or]
    split <;> omega
set_option maxRecDepth 4000 in
theorem highest_ok (l : List Int) (hl : l.length < 1000000) : ACall Tryz.prog 90 [.t (.slice 1 (l.map vi))] [] (ret (vi (hiG l))) := by
  refine ACall.walk k90 ?_
  unfold c90
  simp only [go_sem, Nat.reduceEqDiff, List.length_map]
  refine awpL_for (i := 7) (L := 6) l.length (fun k s => s = { env := [(7, .t (vi k)), (6, .t (vi l.length)), (5, .t (.slice 1 (l.map vi))), (2, .t (vi (hiG (l.take k))))], σ := [] }) ?_ ⟨_, Sub.gc [] [7, 6, 5, 2] rfl rfl, rfl⟩ ?_ ?_
  · rintro k s rfl; exact ⟨rfl, rfl⟩
  · rintro k s hk rfl
    have hg : l[k]? = some l[k] := List.getElem?_eq_getElem hk
    have htk : l.take (k + 1) = l.take k ++ [l[k]] := by rw [List.take_add_one, hg]; rfl
    have hw : IntKind.i64.wrap ((k : Int) + 1) = ((k + 1 : Nat) : Int) := by rw [wrap_id (by omega) (by omega)]; omega
    have hsn := hiG_snoc (l.take k) l[k]
    rw [← htk] at hsn
    have hnil : l.take k = [] ↔ k = 0 := by
      constructor
      · intro h
        have := congrArg List.length h
        rw [List.length_take, List.length_nil] at this
        omega
      · rintro rfl; rfl
    simp only [hnil] at hsn
    generalize hiG (l.take k) = m at *
    generalize l[k] = x at *
    cases hb : ((k : Int) == 0)
    · have hb' : ¬ k = 0 := by
        rw [beq_eq_false_iff_ne] at hb
        omega
      cases h2 : decide (x > m)
      · simp only [go_sem, Nat.reduceEqDiff, beq_self_eq_true, List.getElem?_map, hg, hb, h2, hw]
        refine ⟨_, Sub.gc [] [7, 6, 5, 2] rfl rfl, ?_⟩
        rw [hsn, if_neg (fun h => h.elim hb' fun h => by simp at h2; omega)]
        rfl
      · simp only [go_sem, Nat.reduceEqDiff, beq_self_eq_true, List.getElem?_map, hg, hb, h2, hw]
        refine ⟨_, Sub.gc [] [7, 6, 5, 2] rfl rfl, ?_⟩
        rw [hsn, if_pos (.inr (by simpa using h2))]
        rfl
    · have hb' : k = 0 := by
        rw [beq_iff_eq] at hb
        omega
      simp only [go_sem, Nat.reduceEqDiff, Bool.not_true, undef, List.getElem?_map, hg, hb, hw]
      refine ⟨_, Sub.gc [] [7, 6, 5, 2] rfl rfl, ?_⟩
      rw [hsn, if_pos (.inl hb')]
      rfl
  · rintro s rfl
    simp only [go_sem, Nat.reduceEqDiff]
    exact finL_ret [] ⟨rfl, rfl, rfl, rfl, _, rfl, res_mk (by rw [List.take_length]; rfl)⟩
theorem joinS_ok (a b c d : Int) : ACall Tryz.prog 89 [.t (.agg [vi a, vi b]), .t (.agg [vi c, vi d])] [] (ret (.agg [vi (min a c), vi (max b d)])) := by
  refine ACall.walk k89 ?_
  unfold c89
  have h61 := highest_ok [b, d] (by simp)
  have e : hiG [b, d] = max b d := rfl
  rw [e] at h61
  simp only [go_sem, Nat.reduceEqDiff, Nat.reduceAdd, Nat.reduceLT, Nat.reduceLeDiff]
  repeat' (first | refine AndL.mk ?_ ?_ | simp only [go_sem, Nat.reduceEqDiff, Nat.reduceAdd, Nat.reduceSub, Nat.reduceMul, Nat.reduceLT, Nat.reduceLeDiff, Nat.reduceMod, Nat.reduceDiv, Int.reduceToNat, Int.reduceLT, Int.reduceLE, Bool.not_true, Bool.not_false, reduceIte, Int.reduceEq, Int.reduceBEq, Int.reduceBNe, Int.reduceGT, Int.reduceGE, Int.reduceNeg, Int.reduceAdd, Int.reduceSub, Nat.reduceBEq, decide_true, decide_false, undef, beq_self_eq_true, bne_self_eq_false, Bool.and_true, Bool.true_and, Bool.and_false, Bool.false_and, Bool.or_true, Bool.true_or, Bool.or_false, Bool.false_or])
  all_goals refine ACallL.quiet1 h61 rfl rfl rfl ?_
  all_goals simp only [go_sem, Nat.reduceEqDiff, Nat.reduceAdd, Nat.reduceLeDiff, undef]
  all_goals exact finL_ret [] ⟨rfl, rfl, rfl, rfl, _, rfl, res_mk rfl⟩
open Go Go.Ab
theorem snoc_ind {α : Type} {P : List α → Prop} (h0 : P []) (h1 : ∀ l a, P l → P (l ++ [a])) (l : List α) : P l := by
  have : ∀ r : List α, P r.reverse := fun r => by
    induction r with
    | nil => exact h0
    | cons a r ih => rw [List.reverse_cons]; exact h1 _ _ ih
  have h := this l.reverse
  rwa [List.reverse_reverse] at h
def stepAcc {X : Type} (val : Pole → Option X) (st : Step → X → X) (jn : X → X → X) (acc : Option X) (s : Step) : Option X := match val s.1 with
  | none => acc
  | some r => some (match acc with | none => st s r | some a => jn a (st s r))
def foldS {X : Type} (val : Pole → Option X) (st : Step → X → X) (jn : X → X → X) (l : List Step) : Option X := l.foldl (stepAcc val st jn) none
theorem foldS_snoc {X : Type} (val : Pole → Option X) (st : Step → X → X) (jn : X → X → X) (l : List Step) (s : Step) : foldS val st jn (l ++ [s]) = stepAcc val st jn (foldS val st jn l) s := by simp [foldS]
def toldV {X : Type} (f : Fl) (e : X) (st : Nat → Step → X → X) (jn : X → X → X) : Nat → Nat → Pole → Option X
  | 0, _, _ => some e
  | l + 1, h, p => foldS (toldV f e st jn l (h + 1)) (st h) jn (stepsL f p h)
theorem stepsL_len (f : Fl) (p : Pole) (h : Nat) : (stepsL f p h).length ≤ 3 := by
  have : ∀ o : Option Step, o.toList.length ≤ 1 := fun o => by cases o <;> simp
  simp only [stepsL, stepsK, List.length_append, List.length_nil]
  have h0 := this (stepAt f p h 0)
  have h1 := this (stepAt f p h 1)
  have h2 := this (stepAt f p h 2)
  omega
theorem stepsL_mem {f : Fl} {p : Pole} {h : Nat} {s : Step} (hs : s ∈ stepsL f p h) : ∃ k, k < 3 ∧ stepAt f p h k = some s := by
  simp only [stepsL, stepsK, List.nil_append, List.mem_append, Option.mem_toList] at hs
  rcases hs with (h | h) | h
  · exact ⟨0, by omega, h⟩
  · exact ⟨1, by omega, h⟩
  · exact ⟨2, by omega, h⟩
theorem hour_calm {q : Int} {p : Pole} {k : Int} {n : Nat} (hp : 0 ≤ p.2 ∧ p.2 ≤ n) : 0 ≤ (hourF q p k).1.2 ∧ (hourF q p k).1.2 ≤ (n + 1 : Nat) := by
  unfold hourF
  split
  · simp only; omega
  · split
    · simp only; omega
    · split
      · simp only; omega
      · simp only; omega
theorem step_calm {f : Fl} {p : Pole} {h n : Nat} {s : Step} (hs : s ∈ stepsL f p h) (hp : 0 ≤ p.2 ∧ p.2 ≤ n) : 0 ≤ s.1.2 ∧ s.1.2 ≤ (n + 1 : Nat) := by
  obtain ⟨k, _, e⟩ := stepsL_mem hs
  simp only [stepAt, Option.ite_none_right_eq_some, Option.some.injEq] at e
  obtain ⟨_, rfl⟩ := e
  exact hour_calm hp
abbrev stI (tl : Tl) (h : Nat) (s : Step) (r : Int) : Int := r * (tl.cnt s h : Nat)
abbrev waysV (f : Fl) (tl : Tl) : Nat → Nat → Pole → Option Int := toldV f 1 (stI tl) (· + ·)
abbrev stS (tl : Tl) (h : Nat) (s : Step) (r : Int × Int) : Int × Int := (r.1 + (tl.cnt s h : Nat), r.2 + (tl.cnt s h : Nat))
abbrev jnS (a b : Int × Int) : Int × Int := (min a.1 b.1, max a.2 b.2)
abbrev spanV (f : Fl) (tl : Tl) : Nat → Nat → Pole → Option (Int × Int) := toldV f (0, 0) (stS tl) jnS
theorem stI_le (tl : Tl) (h : Nat) (s : Step) {r M : Int} (hr : 0 ≤ r ∧ r ≤ M) : 0 ≤ stI tl h s r ∧ stI tl h s r ≤ M := by
  have := tl.cnt_le s h
  unfold stI
  have : tl.cnt s h = 0 ∨ tl.cnt s h = 1 := by omega
  rcases this with e | e <;> rw [e] <;> simp <;> omega
theorem foldI_le (val : Pole → Option Int) (tl : Tl) (h : Nat) (M : Int) (hv : ∀ p v, val p = some v → 0 ≤ v ∧ v ≤ M) (hM : 0 ≤ M) : ∀ (l : List Step) (v : Int), foldS val (stI tl h) (· + ·) l = some v → 0 ≤ v ∧ v ≤ l.length * M := by
  intro l
  induction l using snoc_ind with
  | h0 => intro v e; cases e
  | h1 l s ih =>
    intro v e
    rw [foldS_snoc] at e
    unfold stepAcc at e
    have hl : ((l ++ [s]).length : Int) * M = l.length * M + M := by
      rw [List.length_append]
      simp only [List.length_singleton]
      rw [Int.natCast_add, Int.add_mul]
      simp
    rw [hl]
    have h0 : 0 ≤ (l.length : Int) * M := Int.mul_nonneg (by omega) hM
    cases hs : val s.1 with
    | none =>
      rw [hs] at e
      have := ih v e
      omega
    | some r =>
      rw [hs] at e
      have hr := stI_le tl h s (hv _ _ hs)
      cases ha : foldS val (stI tl h) (· + ·) l with
      | none => rw [ha] at e; cases e; simp only; omega
      | some a =>
        rw [ha] at e
        have := ih a ha
        cases e
        simp only
        omega
theorem waysV_le (f : Fl) (tl : Tl) : ∀ (l h : Nat) (p : Pole) (v : Int), waysV f tl l h p = some v → 0 ≤ v ∧ v ≤ (3 : Int) ^ l
  | 0, _, _, v, e => by cases e; simp
  | l + 1, h, p, v, e => by
    have h3 : (0 : Int) ≤ (3 : Int) ^ l := Int.le_of_lt (Int.pow_pos (by decide))
    have := foldI_le (waysV f tl l (h + 1)) tl h ((3 : Int) ^ l) (fun p v e => waysV_le f tl l (h + 1) p v e) h3 _ v e
    have hl := stepsL_len f p h
    refine ⟨this.1, Int.le_trans this.2 ?_⟩
    rw [Int.pow_succ, Int.mul_comm]
    exact Int.mul_le_mul_of_nonneg_left (by omega) h3
theorem pow3_le {l : Nat} (h : l ≤ 9) : (3 : Int) ^ l ≤ 19683 := by
  have : l = 0 ∨ l = 1 ∨ l = 2 ∨ l = 3 ∨ l = 4 ∨ l = 5 ∨ l = 6 ∨ l = 7 ∨ l = 8 ∨ l = 9 := by omega
  rcases this with rfl | rfl | rfl | rfl | rfl | rfl | rfl | rfl | rfl | rfl <;> decide
theorem foldS_le (val : Pole → Option (Int × Int)) (tl : Tl) (h : Nat) (M : Int) (hv : ∀ p v, val p = some v → 0 ≤ v.1 ∧ v.1 ≤ M ∧ 0 ≤ v.2 ∧ v.2 ≤ M) : ∀ (l : List Step) (v : Int × Int), foldS val (stS tl h) jnS l = some v → 0 ≤ v.1 ∧ v.1 ≤ M + 1 ∧ 0 ≤ v.2 ∧ v.2 ≤ M + 1 := by
  intro l
  induction l using snoc_ind with
  | h0 => intro v e; cases e
  | h1 l s ih =>
    intro v e
    rw [foldS_snoc] at e
    unfold stepAcc at e
    have hc := tl.cnt_le s h
    cases hs : val s.1 with
    | none =>
      rw [hs] at e
      exact ih v e
    | some r =>
      rw [hs] at e
      have hr := hv _ _ hs
      cases ha : foldS val (stS tl h) jnS l with
      | none => rw [ha] at e; cases e; simp only; omega
      | some a =>
        rw [ha] at e
        have := ih a ha
        cases e
        simp only
        omega
theorem spanV_le (f : Fl) (tl : Tl) : ∀ (l h : Nat) (p : Pole) (v : Int × Int), spanV f tl l h p = some v → 0 ≤ v.1 ∧ v.1 ≤ l ∧ 0 ≤ v.2 ∧ v.2 ≤ l
  | 0, _, _, v, e => by cases e; simp
  | l + 1, h, p, v, e => by
    have := foldS_le (spanV f tl l (h + 1)) tl h l (fun p v e => spanV_le f tl l (h + 1) p v e) _ v e
    omega
abbrev shA : Sh := (some [none, some .i64, some .i64], none)
def MapOK (n : Nat) (g : Nat → Pole → T) (ks : List (Nat × List Int)) (xs : List T) : Prop :=
  ks.length = xs.length ∧ ∀ (i : Nat) e x, ks[i]? = some e → xs[i]? = some x → ∃ (u c : Int) (h : Nat), e.2 = [u, c, (h : Int)] ∧ h ≤ n ∧ x = g h (u != 0, c)
theorem MapOK.nil (n : Nat) (g : Nat → Pole → T) : MapOK n g [] [] := ⟨rfl, fun i e x h => by simp at h⟩
abbrev keyA (p : Pole) (h : Nat) : List Int := [if p.1 then 1 else 0, p.2, h]
theorem MapOK.find {n : Nat} {g : Nat → Pole → T} {ks : List (Nat × List Int)} {xs : List T} (M : MapOK n g ks xs) {p : Pole} {h i : Nat} (hf : kfind shA ks (keyA p h) = some i) : xs[i]? = some (g h p) := by
  unfold kfind at hf
  obtain ⟨hi, hp, _⟩ := List.findIdx?_eq_some_iff_getElem.1 hf
  have hix : i < xs.length := by rw [← M.1]; exact hi
  obtain ⟨u, c, h', e1, _, e2⟩ := M.2 i ks[i] xs[i] (List.getElem?_eq_getElem hi) (List.getElem?_eq_getElem hix)
  rw [e1] at hp
  simp only [shKinds, kEq, cellEq, Bool.and_true, Bool.and_eq_true, beq_iff_eq] at hp
  obtain ⟨a1, a2, a3⟩ := hp
  obtain ⟨up, cc⟩ := p
  simp only at a1 a2 a3
  have h3 : h = h' := by omega
  subst h3 a2
  have h1 : up = (u != 0) := by rw [← a1]; cases up <;> rfl
  rw [List.getElem?_eq_getElem hix, e2, h1]
theorem MapOK.put {n : Nat} {g : Nat → Pole → T} {ks : List (Nat × List Int)} {xs : List T} (M : MapOK n g ks xs) {p : Pole} {h i : Nat} (hf : kfind shA ks (keyA p h) = some i) : MapOK n g ks (xs.set i (g h p)) := by
  have hx := M.find hf
  have : xs.set i (g h p) = xs := by
    apply List.ext_getElem?
    intro j
    by_cases hj : i = j
    · subst hj
      rw [List.getElem?_set_self (List.getElem?_eq_some_iff.1 hx).1, hx]
    · rw [List.getElem?_set_ne hj]
  rw [this]; exact M
theorem MapOK.new {n : Nat} {g : Nat → Pole → T} {ks : List (Nat × List Int)} {xs : List T} (M : MapOK n g ks xs) {p : Pole} {h clk : Nat} (hh : h ≤ n) : MapOK n g (ks ++ [(clk, keyA p h)]) (xs ++ [g h p]) := by
  refine ⟨by simp [M.1], fun i e x h1 h2 => ?_⟩
  by_cases hi : i < ks.length
  · rw [List.getElem?_append_left hi] at h1
    rw [List.getElem?_append_left (by rw [← M.1]; exact hi)] at h2
    exact M.2 i e x h1 h2
  · have hlt := (List.getElem?_eq_some_iff.1 h1).1
    simp at hlt
    obtain rfl : i = ks.length := by omega
    rw [List.getElem?_append_right (by omega)] at h1
    rw [M.1, List.getElem?_append_right (by omega)] at h2
    simp at h1 h2
    subst h1 h2
    obtain ⟨up, c⟩ := p
    exact ⟨if up then 1 else 0, c, h, rfl, hh, by cases up <;> rfl⟩
def onE (fnum : Nat) : E := .fn (.func fnum) [] [.ptr 0 0, .ptr 1 0, .ptr 2 0, .ptr 3 0]
def σ5 (fnum : Nat) (f : Fl) (sum : List T) (ks : List (Nat × List Int)) (xs : List T) (clk : Nat) : List AO :=
  [.cells [.t (tBch f)], .cells (sum.map .t), .cells [.map 4], .cells [onE fnum], .map shA ks xs clk]
theorem lend5 {fnum : Nat} {f : Fl} {sum : List T} {OK : List (Nat × List Int) → List T → Prop} {ks : List (Nat × List Int)} {xs : List T} {clk : Nat} {x v : T}
    (h : ACall Tryz.prog fnum [.t x, .ptr 0 0, .ptr 1 0, .ptr 2 0, .ptr 3 0] (σ5 fnum f sum ks xs clk) fun o σ' => o = .ret (.t v) ∧ ∃ ks' xs' clk', OK ks' xs' ∧ σ' = σ5 fnum f sum ks' xs' clk')
    {a b c d e : Nat} {σ : List AO} {R : Lz (Out → List AO → Prop)} (hnd : [a, b, c, d, e].Nodup) (ha : σ[a]? = some (.cells [.t (tBch f)])) (hb : σ[b]? = some (.cells (sum.map .t))) (hc : σ[c]? = some (.cells [.map e]))
    (hd : σ[d]? = some (.cells [.fn (.func fnum) [] [.ptr a 0, .ptr b 0, .ptr c 0, .ptr d 0]])) (he : σ[e]? = some (.map shA ks xs clk))
    (hk : ∀ ks' xs' clk', OK ks' xs' → R.get (.ret (.t v)) (σ.set e (.map shA ks' xs' clk'))) : @ACallL Tryz.prog fnum [.t x, .ptr a 0, .ptr b 0, .ptr c 0, .ptr d 0] σ R := by
  have hal := (List.getElem?_eq_some_iff.1 ha).1
  have hbl := (List.getElem?_eq_some_iff.1 hb).1
  have hcl := (List.getElem?_eq_some_iff.1 hc).1
  have hdl := (List.getElem?_eq_some_iff.1 hd).1
  have hel := (List.getElem?_eq_some_iff.1 he).1
  have e0 : lendR [a, b, c, d, e] σ.length 0 = a := rfl
  have e1 : lendR [a, b, c, d, e] σ.length 1 = b := rfl
  have e2 : lendR [a, b, c, d, e] σ.length 2 = c := rfl
  have e3 : lendR [a, b, c, d, e] σ.length 3 = d := rfl
  have e4 : lendR [a, b, c, d, e] σ.length 4 = e := rfl
  have es : ∀ (ρ : Nat → Nat) (l : List T), E.rens ρ (l.map .t) = l.map .t := fun ρ l => by rw [E.rens_map, List.map_map]; rfl
  have hlt : ∀ k ∈ [a, b, c, d, e], k < σ.length := by simp; omega
  refine ACall.mono (ACall.lend [a, b, c, d, e] h hnd hlt rfl (fun i o ho => ?_) (args := [.t x, .ptr a 0, .ptr b 0, .ptr c 0, .ptr d 0]) (by simp [E.rens_map, E.ren, e0, e1, e2, e3])) ?_
  · match i, ho with
    | 0, ho => simp [σ5] at ho; subst ho; rw [e0, ha]; simp [AO.ren, E.rens, E.ren]
    | 1, ho => simp [σ5] at ho; subst ho; rw [e1, hb]; simp [AO.ren, es]
    | 2, ho => simp [σ5] at ho; subst ho; rw [e2, hc]; simp [AO.ren, E.rens, E.ren, e4]
    | 3, ho => simp [σ5] at ho; subst ho; rw [e3, hd]; simp [AO.ren, E.rens, E.ren, onE, e0, e1, e2, e3]
    | 4, ho => simp [σ5] at ho; subst ho; rw [e4, he]; simp [AO.ren]
  · rintro o σ1 ⟨o0, σ0, ⟨rfl, ks', xs', clk', hOK, rfl⟩, _, rfl, rfl⟩
    have := hk ks' xs' clk' hOK
    have hs : lendB σ [a, b, c, d, e] ((σ5 fnum f sum ks' xs' clk').map (AO.ren (lendR [a, b, c, d, e] σ.length))) = σ.set e (.map shA ks' xs' clk') := by
      apply List.ext_getElem?
      intro i
      by_cases hi : i ∈ [a, b, c, d, e]
      · obtain ⟨j, hj⟩ := List.getElem?_of_mem hi
        rw [lendB_kept (by simp [σ5]) hnd hlt hj]
        simp only [List.nodup_cons, List.mem_cons, List.not_mem_nil, or_false, not_or, List.nodup_nil, and_true] at hnd
        match j, hj with
        | 0, hj => simp at hj; subst hj; rw [List.getElem?_set_ne (by omega), ha]; simp [σ5, AO.ren, E.rens, E.ren]
        | 1, hj => simp at hj; subst hj; rw [List.getElem?_set_ne (by omega), hb]; simp [σ5, AO.ren, es]
        | 2, hj => simp at hj; subst hj; rw [List.getElem?_set_ne (by omega), hc]; simp [σ5, AO.ren, E.rens, E.ren, e4]
        | 3, hj => simp at hj; subst hj; rw [List.getElem?_set_ne (by omega), hd]; simp [σ5, AO.ren, E.rens, E.ren, onE, e0, e1, e2, e3]
        | 4, hj => simp at hj; subst hj; rw [List.getElem?_set_self hel]; simp [σ5, AO.ren]
        | j + 5, hj => simp at hj
      · by_cases hil : i < σ.length
        · rw [lendB_other hil hi, List.getElem?_set_ne (fun e' => hi (by simp [e']))]
        · rw [List.getElem?_eq_none (by rw [lendB_length (by simp [σ5])]; simp [σ5]; omega), List.getElem?_eq_none (by rw [List.length_set]; omega)]
    rw [hs]
    exact this
open Go Go.Ab
def kI : Option Int → List T
  | none => [vi 0, vb false]
  | some n => [vi n, vb true]
def gI (f : Fl) (tl : Tl) (h : Nat) (p : Pole) : T := .agg (kI (waysV f tl (f.hs.length - h) h p))
def sumI (tl : Tl) : List T := [vi 1, .fn (.func 85) [] [.ptr (.agg [tTl tl]) 0], .fn (.func 86) [] []]
def invI (f : Fl) (tl : Tl) (p : Pole) (h l : Nat) (j : Nat) (σ : List AO) : Prop :=
  ∃ ks xs clk, MapOK f.hs.length (gI f tl) ks xs ∧ σ = σ5 108 f (sumI tl) ks xs clk ++ [.cells [.t (vb p.1), .t (vi p.2), .t (vi h)], .cells [.t (vi 0), .t (vb false)], .cells ((kI (foldS (waysV f tl l (h + 1)) (stI tl h) (· + ·) ((stepsL f p h).take j))).map .t)]
theorem ofV_step (s : Step) : T.ofV (vStep s) = tStep s := rfl
theorem toKey_at (u : Bool) (c : Int) (h : Nat) : toKey (some [none, some .i64, some .i64], none) (.t (.agg [vb u, vi c, vi h])) = some (keyA (u, c) h) := rfl
set_option maxRecDepth 8000 in
set_option maxHeartbeats 4000000 in
theorem onI_ok (f : Fl) (hf : f.OK) (tl : Tl) : ∀ (l h : Nat) (p : Pole) (ks : List (Nat × List Int)) (xs : List T) (clk : Nat), h + l = f.hs.length → 0 ≤ p.2 ∧ p.2 ≤ h → MapOK f.hs.length (gI f tl) ks xs →
    ACall Tryz.prog 108 [.t (.agg [vb p.1, vi p.2, vi h]), .ptr 0 0, .ptr 1 0, .ptr 2 0, .ptr 3 0] (σ5 108 f (sumI tl) ks xs clk) fun o σ' => o = .ret (.t (.agg (kI (waysV f tl l h p)))) ∧ ∃ ks' xs' clk', MapOK f.hs.length (gI f tl) ks' xs' ∧ σ' = σ5 108 f (sumI tl) ks' xs' clk' := by
  intro l
  have hn := hf.nh
  induction l with
  | zero =>
    intro h p ks xs clk hl hp M
    obtain ⟨u, c⟩ := p
    have hh : ((h : Int) == f.hs.length) = true := by rw [beq_iff_eq]; omega
    refine ACall.walk k108 ?_
    unfold c108
    simp only [σ5, sumI, onE, tBch, go_sem, Nat.reduceEqDiff, Nat.reduceAdd, Nat.reduceLeDiff, undef, cellsB_3, List.length_map, hh]
    refine finL_ret [0, 1, 2, 3, 4] ⟨rfl, rfl, rfl, rfl, _, rfl, rfl, ks, xs, clk, M, rfl⟩
  | succ l ih =>
    intro h p ks xs clk hl hp M
    obtain ⟨u, c⟩ := p
    simp only at hp
    have hh : ((h : Int) == f.hs.length) = false := by rw [beq_eq_false_iff_ne]; omega
    have hg : gI f tl h (u, c) = .agg (kI (waysV f tl (l + 1) h (u, c))) := by unfold gI; rw [show f.hs.length - h = l + 1 by omega]
    refine ACall.walk k108 ?_
    unfold c108
    simp only [σ5, sumI, onE, tBch, go_sem, Nat.reduceEqDiff, Nat.reduceAdd, cellsB_3, List.length_map, hh, mapOf?, toKey_at]
    cases hk : kfind (some [none, some IntKind.i64, some IntKind.i64], none) ks (keyA (u, c) h) with
    | some i =>
      have hx := M.find hk
      rw [hg] at hx
      cases hv : waysV f tl (l + 1) h (u, c) with
      | none =>
        rw [hv] at hx
        simp only [kI] at hx
        simp only [hx, go_sem, Nat.reduceEqDiff, Nat.reduceAdd, undef]
        refine finL_ret [0, 1, 2, 3, 4] ⟨rfl, rfl, rfl, rfl, _, rfl, rfl, ks, xs, clk, M, rfl⟩
      | some n =>
        rw [hv] at hx
        simp only [kI] at hx
        simp only [hx, go_sem, Nat.reduceEqDiff, Nat.reduceAdd, undef]
        refine finL_ret [0, 1, 2, 3, 4] ⟨rfl, rfl, rfl, rfl, _, rfl, rfl, ks, xs, clk, M, rfl⟩
    | none =>
      simp only [zeroT, go_sem, Nat.reduceEqDiff, Nat.reduceAdd, Nat.reduceLeDiff, undef]
      refine ACallL.fresh1 (steps_ok f (u, c) h) rfl ?_
      simp only [tSteps, go_sem]
      refine awpL_rangeF2 (f := 116) (fs := []) (cs := [.ptr (.agg [tBch f]) 0, .ptr (.agg [vi h]) 0, .ptr (tPole (u, c)) 0]) ((stepsL f (u, c) h).map vStep) (invI f tl (u, c) h l) [0, 1, 2, 3, 4, 5, 6, 8] [2, 3, 4, 5, 6, 9]
        [(2, .ptr 1 0), (3, .ptr 2 0), (4, .ptr 3 0), (5, .ptr 5 0), (6, .ptr 6 0), (9, .ptr 7 0)] [] rfl rfl rfl rfl (steps_gen f (u, c) h (by omega) (by simp only; omega)) rfl rfl ⟨ks, xs, clk, M, rfl⟩ ?_ ?_
      · rintro l' j v σ hj ⟨ks', xs', clk', M', rfl⟩
        rw [List.getElem?_map] at hj
        obtain ⟨s, hs, rfl⟩ := Option.map_eq_some_iff.1 hj
        have htk : (stepsL f (u, c) h).take (j + 1) = (stepsL f (u, c) h).take j ++ [s] := by rw [List.take_add_one, hs]; rfl
        have hmem := List.mem_of_getElem? hs
        have hcalm := step_calm hmem (p := (u, c)) (n := h) (by simp only; omega)
        have hnext := ih (h + 1) s.1 ks' xs' clk' (by omega) hcalm M'
        have hfl := foldI_le (waysV f tl l (h + 1)) tl h 19683 (fun p v e => by
          have h1 := waysV_le f tl l (h + 1) p v e
          have h2 := pow3_le (l := l) (by omega)
          omega) (by omega) ((stepsL f (u, c) h).take j)
        have hlen : ((stepsL f (u, c) h).take j).length ≤ 3 := by
          have := stepsL_len f (u, c) h
          rw [List.length_take]
          omega
        have hw : IntKind.i64.wrap ((h : Int) + 1) = ((h + 1 : Nat) : Int) := by rw [wrap_id (by omega) (by omega)]; omega
        have hacc := foldS_snoc (waysV f tl l (h + 1)) (stI tl h) (· + ·) ((stepsL f (u, c) h).take j) s
        rw [← htk] at hacc
        have hvle := fun v e => waysV_le f tl l (h + 1) s.1 v e
        have h3l := pow3_le (l := l) (by omega)
        have hst := fun r => stepI_ok tl s h r
        have hinv : ∀ (ks : List (Nat × List Int)) (xs : List T) (clk : Nat), MapOK f.hs.length (gI f tl) ks xs → invI f tl (u, c) h l (j + 1) (σ5 108 f (sumI tl) ks xs clk ++ [.cells [.t (vb u), .t (vi c), .t (vi h)], .cells [.t (vi 0), .t (vb false)], .cells ((kI (stepAcc (waysV f tl l (h + 1)) (stI tl h) (· + ·) (foldS (waysV f tl l (h + 1)) (stI tl h) (· + ·) ((stepsL f (u, c) h).take j)) s)).map .t)]) :=
          fun ks xs clk M => ⟨ks, xs, clk, M, by rw [hacc]⟩
        clear hacc htk hj hs hmem ih
        generalize foldS (waysV f tl l (h + 1)) (stI tl h) (· + ·) ((stepsL f (u, c) h).take j) = acc at *
        unfold stepAcc at hinv
        generalize waysV f tl l (h + 1) s.1 = val at *
        obtain ⟨⟨q1, q2⟩, up, k⟩ := s
        rw [ofV_step]
        simp only [tStep, σ5, onE, sumI, go_sem, Nat.reduceEqDiff, Nat.reduceAdd, Nat.reduceLeDiff, undef, hw]
        have hvals : ∀ (u c h : T), T.agg [u, c, h] = T.agg [u, c, h] := fun _ _ _ => rfl
        refine lend5 (sum := sumI tl) hnext (by decide) rfl rfl rfl rfl rfl fun ks2 xs2 clk2 M2 => ?_
        cases hval : val with
        | none =>
          subst hval
          simp only [kI, go_sem, Nat.reduceEqDiff, Nat.reduceAdd, Bool.not_false, undef]
          refine ⟨[0, 1, 2, 3, 4, 5, 6, 7], rfl, rfl, ?_⟩
          have := hinv ks2 xs2 clk2 M2
          cases acc <;> exact this
        | some r =>
          subst hval
          have hr := hvle r rfl
          simp only [kI, go_sem, Nat.reduceEqDiff, Nat.reduceAdd, Nat.reduceLeDiff, Bool.not_true, undef]
          refine ACallL.quiet1 (hst r (by omega)) rfl rfl rfl ?_
          have hi := hinv ks2 xs2 clk2 M2
          have hs' := stI_le tl h ((q1, q2), up, k) (M := 19683) (r := r) (by omega)
          cases hacc : acc with
          | none =>
            subst hacc
            simp only [go_sem, Nat.reduceEqDiff, Nat.reduceAdd, Nat.reduceLeDiff, undef]
            exact ⟨[0, 1, 2, 3, 4, 5, 6, 7], rfl, rfl, hi⟩
          | some a =>
            subst hacc
            have ha := hfl a rfl
            simp only [go_sem, Nat.reduceEqDiff, Nat.reduceAdd, Nat.reduceLeDiff]
            refine ACallL.quiet1 (joinI_ok a (stI tl h ((q1, q2), up, k) r) (by omega) (by omega)) rfl rfl rfl ?_
            simp only [go_sem, Nat.reduceEqDiff, Nat.reduceAdd, Nat.reduceLeDiff, undef]
            exact ⟨[0, 1, 2, 3, 4, 5, 6, 7], rfl, rfl, hi⟩
      · rintro σ ⟨ks', xs', clk', M', rfl⟩
        rw [List.length_map, List.take_length]
        have hfin : foldS (waysV f tl l (h + 1)) (stI tl h) (· + ·) (stepsL f (u, c) h) = waysV f tl (l + 1) h (u, c) := rfl
        rw [hfin]
        rw [hfin] at *
        generalize waysV f tl (l + 1) h (u, c) = v at *
        cases v with
        | none =>
          simp only [kI, σ5, sumI, onE, go_sem, Nat.reduceEqDiff, Nat.reduceAdd, undef, toKey_at]
          cases hk2 : kfind (some [none, some IntKind.i64, some IntKind.i64], none) ks' (keyA (u, c) h) with
          | some i =>
            simp only [go_sem, Nat.reduceEqDiff, Nat.reduceAdd, undef]
            have M2 := M'.put hk2
            rw [hg] at M2
            exact finL_ret [0, 1, 2, 3, 4] ⟨rfl, rfl, rfl, rfl, _, rfl, rfl, _, _, _, M2, rfl⟩
          | none =>
            simp only [go_sem, Nat.reduceEqDiff, Nat.reduceAdd, undef]
            have M2 := M'.new (p := (u, c)) (h := h) (clk := clk') (by omega)
            rw [hg] at M2
            exact finL_ret [0, 1, 2, 3, 4] ⟨rfl, rfl, rfl, rfl, _, rfl, rfl, _, _, _, M2, rfl⟩
        | some n =>
          simp only [kI, σ5, sumI, onE, go_sem, Nat.reduceEqDiff, Nat.reduceAdd, undef, toKey_at]
          cases hk2 : kfind (some [none, some IntKind.i64, some IntKind.i64], none) ks' (keyA (u, c) h) with
          | some i =>
            simp only [go_sem, Nat.reduceEqDiff, Nat.reduceAdd, undef]
            have M2 := M'.put hk2
            rw [hg] at M2
            exact finL_ret [0, 1, 2, 3, 4] ⟨rfl, rfl, rfl, rfl, _, rfl, rfl, _, _, _, M2, rfl⟩
          | none =>
            simp only [go_sem, Nat.reduceEqDiff, Nat.reduceAdd, undef]
            have M2 := M'.new (p := (u, c)) (h := h) (clk := clk') (by omega)
            rw [hg] at M2
            exact finL_ret [0, 1, 2, 3, 4] ⟨rfl, rfl, rfl, rfl, _, rfl, rfl, _, _, _, M2, rfl⟩
open Go Go.Ab
def kS : Option (Int × Int) → List T
  | none => [vi 0, vi 0, vb false]
  | some n => [vi n.1, vi n.2, vb true]
def gS (f : Fl) (tl : Tl) (h : Nat) (p : Pole) : T := .agg (kS (spanV f tl (f.hs.length - h) h p))
def sumS (tl : Tl) : List T := [vi 0, vi 0, .fn (.func 88) [] [.ptr (.agg [tTl tl]) 0], .fn (.func 89) [] []]
def invS (f : Fl) (tl : Tl) (p : Pole) (h l : Nat) (j : Nat) (σ : List AO) : Prop :=
  ∃ ks xs clk, MapOK f.hs.length (gS f tl) ks xs ∧ σ = σ5 110 f (sumS tl) ks xs clk ++ [.cells [.t (vb p.1), .t (vi p.2), .t (vi h)], .cells [.t (vi 0), .t (vi 0), .t (vb false)], .cells ((kS (foldS (spanV f tl l (h + 1)) (stS tl h) jnS ((stepsL f p h).take j))).map .t)]
set_option maxRecDepth 8000 in
set_option maxHeartbeats 4000000 in
theorem onS_ok (f : Fl) (hf : f.OK) (tl : Tl) : ∀ (l h : Nat) (p : Pole) (ks : List (Nat × List Int)) (xs : List T) (clk : Nat), h + l = f.hs.length → 0 ≤ p.2 ∧ p.2 ≤ h → MapOK f.hs.length (gS f tl) ks xs →
    ACall Tryz.prog 110 [.t (.agg [vb p.1, vi p.2, vi h]), .ptr 0 0, .ptr 1 0, .ptr 2 0, .ptr 3 0] (σ5 110 f (sumS tl) ks xs clk) fun o σ' => o = .ret (.t (.agg (kS (spanV f tl l h p)))) ∧ ∃ ks' xs' clk', MapOK f.hs.length (gS f tl) ks' xs' ∧ σ' = σ5 110 f (sumS tl) ks' xs' clk' := by
  intro l
  have hn := hf.nh
  induction l with
  | zero =>
    intro h p ks xs clk hl hp M
    obtain ⟨u, c⟩ := p
    have hh : ((h : Int) == f.hs.length) = true := by rw [beq_iff_eq]; omega
    refine ACall.walk k110 ?_
    unfold c110
    simp only [σ5, sumS, onE, tBch, go_sem, Nat.reduceEqDiff, Nat.reduceAdd, Nat.reduceLeDiff, undef, cellsB_3, List.length_map, hh]
    refine finL_ret [0, 1, 2, 3, 4] ⟨rfl, rfl, rfl, rfl, _, rfl, rfl, ks, xs, clk, M, rfl⟩
  | succ l ih =>
    intro h p ks xs clk hl hp M
    obtain ⟨u, c⟩ := p
    simp only at hp
    have hh : ((h : Int) == f.hs.length) = false := by rw [beq_eq_false_iff_ne]; omega
    have hg : gS f tl h (u, c) = .agg (kS (spanV f tl (l + 1) h (u, c))) := by unfold gS; rw [show f.hs.length - h = l + 1 by omega]
    refine ACall.walk k110 ?_
    unfold c110
    simp only [σ5, sumS, onE, tBch, go_sem, Nat.reduceEqDiff, Nat.reduceAdd, cellsB_3, List.length_map, hh, mapOf?, toKey_at]
    cases hk : kfind (some [none, some IntKind.i64, some IntKind.i64], none) ks (keyA (u, c) h) with
    | some i =>
      have hx := M.find hk
      rw [hg] at hx
      cases hv : spanV f tl (l + 1) h (u, c) with
      | none =>
        rw [hv] at hx
        simp only [kS] at hx
        simp only [hx, go_sem, Nat.reduceEqDiff, Nat.reduceAdd, undef]
        refine finL_ret [0, 1, 2, 3, 4] ⟨rfl, rfl, rfl, rfl, _, rfl, rfl, ks, xs, clk, M, rfl⟩
      | some n =>
        rw [hv] at hx
        simp only [kS] at hx
        simp only [hx, go_sem, Nat.reduceEqDiff, Nat.reduceAdd, undef]
        refine finL_ret [0, 1, 2, 3, 4] ⟨rfl, rfl, rfl, rfl, _, rfl, rfl, ks, xs, clk, M, rfl⟩
    | none =>
      simp only [zeroT, go_sem, Nat.reduceEqDiff, Nat.reduceAdd, Nat.reduceLeDiff, undef]
      refine ACallL.fresh1 (steps_ok f (u, c) h) rfl ?_
      simp only [tSteps, go_sem]
      refine awpL_rangeF2 (f := 116) (fs := []) (cs := [.ptr (.agg [tBch f]) 0, .ptr (.agg [vi h]) 0, .ptr (tPole (u, c)) 0]) ((stepsL f (u, c) h).map vStep) (invS f tl (u, c) h l) [0, 1, 2, 3, 4, 5, 6, 8] [2, 3, 4, 5, 6, 9]
        [(2, .ptr 1 0), (3, .ptr 2 0), (4, .ptr 3 0), (5, .ptr 5 0), (6, .ptr 6 0), (9, .ptr 7 0)] [] rfl rfl rfl rfl (steps_gen f (u, c) h (by omega) (by simp only; omega)) rfl rfl ⟨ks, xs, clk, M, rfl⟩ ?_ ?_
      · rintro l' j v σ hj ⟨ks', xs', clk', M', rfl⟩
        rw [List.getElem?_map] at hj
        obtain ⟨s, hs, rfl⟩ := Option.map_eq_some_iff.1 hj
        have htk : (stepsL f (u, c) h).take (j + 1) = (stepsL f (u, c) h).take j ++ [s] := by rw [List.take_add_one, hs]; rfl
        have hmem := List.mem_of_getElem? hs
        have hcalm := step_calm hmem (p := (u, c)) (n := h) (by simp only; omega)
        have hnext := ih (h + 1) s.1 ks' xs' clk' (by omega) hcalm M'
        have hfl := foldS_le (spanV f tl l (h + 1)) tl h 9 (fun p v e => by
          have h1 := spanV_le f tl l (h + 1) p v e
          omega) ((stepsL f (u, c) h).take j)
        have hlen : ((stepsL f (u, c) h).take j).length ≤ 3 := by
          have := stepsL_len f (u, c) h
          rw [List.length_take]
          omega
        have hw : IntKind.i64.wrap ((h : Int) + 1) = ((h + 1 : Nat) : Int) := by rw [wrap_id (by omega) (by omega)]; omega
        have hacc := foldS_snoc (spanV f tl l (h + 1)) (stS tl h) jnS ((stepsL f (u, c) h).take j) s
        rw [← htk] at hacc
        have hvle := fun v e => spanV_le f tl l (h + 1) s.1 v e
        have hst := fun r1 r2 => stepS_ok tl s h r1 r2
        have hinv : ∀ (ks : List (Nat × List Int)) (xs : List T) (clk : Nat), MapOK f.hs.length (gS f tl) ks xs → invS f tl (u, c) h l (j + 1) (σ5 110 f (sumS tl) ks xs clk ++ [.cells [.t (vb u), .t (vi c), .t (vi h)], .cells [.t (vi 0), .t (vi 0), .t (vb false)], .cells ((kS (stepAcc (spanV f tl l (h + 1)) (stS tl h) jnS (foldS (spanV f tl l (h + 1)) (stS tl h) jnS ((stepsL f (u, c) h).take j)) s)).map .t)]) :=
          fun ks xs clk M => ⟨ks, xs, clk, M, by rw [hacc]⟩
        clear hacc htk hj hs hmem ih
        generalize foldS (spanV f tl l (h + 1)) (stS tl h) jnS ((stepsL f (u, c) h).take j) = acc at *
        unfold stepAcc at hinv
        generalize spanV f tl l (h + 1) s.1 = val at *
        obtain ⟨⟨q1, q2⟩, up, k⟩ := s
        rw [ofV_step]
        simp only [tStep, σ5, onE, sumS, go_sem, Nat.reduceEqDiff, Nat.reduceAdd, Nat.reduceLeDiff, undef, hw]
        have hvals : ∀ (u c h : T), T.agg [u, c, h] = T.agg [u, c, h] := fun _ _ _ => rfl
        refine lend5 (sum := sumS tl) hnext (by decide) rfl rfl rfl rfl rfl fun ks2 xs2 clk2 M2 => ?_
        cases hval : val with
        | none =>
          subst hval
          simp only [kS, go_sem, Nat.reduceEqDiff, Nat.reduceAdd, Bool.not_false, undef]
          refine ⟨[0, 1, 2, 3, 4, 5, 6, 7], rfl, rfl, ?_⟩
          have := hinv ks2 xs2 clk2 M2
          cases acc <;> exact this
        | some r =>
          subst hval
          have hr := hvle r rfl
          obtain ⟨r1, r2⟩ := r
          simp only at hr
          simp only [kS, go_sem, Nat.reduceEqDiff, Nat.reduceAdd, Nat.reduceLeDiff, Bool.not_true, undef]
          refine ACallL.quiet1 (hst r1 r2 (by omega)) rfl rfl rfl ?_
          have hi := hinv ks2 xs2 clk2 M2
          cases hacc : acc with
          | none =>
            subst hacc
            simp only [go_sem, Nat.reduceEqDiff, Nat.reduceAdd, Nat.reduceLeDiff, undef]
            exact ⟨[0, 1, 2, 3, 4, 5, 6, 7], rfl, rfl, hi⟩
          | some a =>
            subst hacc
            obtain ⟨a1, a2⟩ := a
            simp only [go_sem, Nat.reduceEqDiff, Nat.reduceAdd, Nat.reduceLeDiff, undef]
            refine ACallL.quiet1 (joinS_ok a1 a2 _ _) rfl rfl rfl ?_
            simp only [go_sem, Nat.reduceEqDiff, Nat.reduceAdd, Nat.reduceLeDiff, undef]
            exact ⟨[0, 1, 2, 3, 4, 5, 6, 7], rfl, rfl, hi⟩
      · rintro σ ⟨ks', xs', clk', M', rfl⟩
        rw [List.length_map, List.take_length]
        have hfin : foldS (spanV f tl l (h + 1)) (stS tl h) jnS (stepsL f (u, c) h) = spanV f tl (l + 1) h (u, c) := rfl
        rw [hfin]
        rw [hfin] at *
        generalize spanV f tl (l + 1) h (u, c) = v at *
        cases v with
        | none =>
          simp only [kS, σ5, sumS, onE, go_sem, Nat.reduceEqDiff, Nat.reduceAdd, undef, toKey_at]
          cases hk2 : kfind (some [none, some IntKind.i64, some IntKind.i64], none) ks' (keyA (u, c) h) with
          | some i =>
            simp only [go_sem, Nat.reduceEqDiff, Nat.reduceAdd, undef]
            have M2 := M'.put hk2
            rw [hg] at M2
            exact finL_ret [0, 1, 2, 3, 4] ⟨rfl, rfl, rfl, rfl, _, rfl, rfl, _, _, _, M2, rfl⟩
          | none =>
            simp only [go_sem, Nat.reduceEqDiff, Nat.reduceAdd, undef]
            have M2 := M'.new (p := (u, c)) (h := h) (clk := clk') (by omega)
            rw [hg] at M2
            exact finL_ret [0, 1, 2, 3, 4] ⟨rfl, rfl, rfl, rfl, _, rfl, rfl, _, _, _, M2, rfl⟩
        | some n =>
          simp only [kS, σ5, sumS, onE, go_sem, Nat.reduceEqDiff, Nat.reduceAdd, undef, toKey_at]
          cases hk2 : kfind (some [none, some IntKind.i64, some IntKind.i64], none) ks' (keyA (u, c) h) with
          | some i =>
            simp only [go_sem, Nat.reduceEqDiff, Nat.reduceAdd, undef]
            have M2 := M'.put hk2
            rw [hg] at M2
            exact finL_ret [0, 1, 2, 3, 4] ⟨rfl, rfl, rfl, rfl, _, rfl, rfl, _, _, _, M2, rfl⟩
          | none =>
            simp only [go_sem, Nat.reduceEqDiff, Nat.reduceAdd, undef]
            have M2 := M'.new (p := (u, c)) (h := h) (clk := clk') (by omega)
            rw [hg] at M2
            exact finL_ret [0, 1, 2, 3, 4] ⟨rfl, rfl, rfl, rfl, _, rfl, rfl, _, _, _, M2, rfl⟩
open Go Go.Ab
abbrev pole0 : Pole := (false, 0)
set_option maxRecDepth 4000 in
theorem toldI_ok (f : Fl) (hf : f.OK) (tl : Tl) : ACall Tryz.prog 84 [.t (tBch f), .t (.agg (sumI tl))] [] (res (.ret (.tup [.t (vi ((waysV f tl f.hs.length 0 pole0).getD 0)), .t (vb (waysV f tl f.hs.length 0 pole0).isSome)]))) := by
  refine ACall.walk k84 ?_
  unfold c84 sumI
  simp only [tBch, go_sem, Nat.reduceEqDiff, Nat.reduceAdd, undef]
  refine lend5 (sum := sumI tl) (OK := MapOK f.hs.length (gI f tl)) (onI_ok f hf tl f.hs.length 0 pole0 [] [] 0 (by omega) (by simp) (MapOK.nil _ _)) (a := 0) (b := 1) (c := 3) (d := 4) (e := 2) (by decide) rfl rfl rfl rfl rfl fun ks2 xs2 clk2 M2 => ?_
  cases hv : waysV f tl f.hs.length 0 pole0 with
  | none =>
    simp only [kI, go_sem, Nat.reduceEqDiff, Nat.reduceAdd, Nat.reduceLeDiff, undef]
    exact finL_ret [] ⟨rfl, rfl, rfl, rfl, _, rfl, res_mk rfl⟩
  | some n =>
    simp only [kI, go_sem, Nat.reduceEqDiff, Nat.reduceAdd, Nat.reduceLeDiff, undef]
    exact finL_ret [] ⟨rfl, rfl, rfl, rfl, _, rfl, res_mk rfl⟩
set_option maxRecDepth 4000 in
theorem toldS_ok (f : Fl) (hf : f.OK) (tl : Tl) : ACall Tryz.prog 87 [.t (tBch f), .t (.agg (sumS tl))] [] (res (.ret (.tup [.t (tSp ((spanV f tl f.hs.length 0 pole0).getD (0, 0))), .t (vb (spanV f tl f.hs.length 0 pole0).isSome)]))) := by
  refine ACall.walk k87 ?_
  unfold c87 sumS
  simp only [tBch, go_sem, Nat.reduceEqDiff, Nat.reduceAdd, undef]
  refine lend5 (sum := sumS tl) (OK := MapOK f.hs.length (gS f tl)) (onS_ok f hf tl f.hs.length 0 pole0 [] [] 0 (by omega) (by simp) (MapOK.nil _ _)) (a := 0) (b := 1) (c := 4) (d := 5) (e := 3) (by decide) rfl rfl rfl rfl rfl fun ks2 xs2 clk2 M2 => ?_
  cases hv : spanV f tl f.hs.length 0 pole0 with
  | none =>
    simp only [kS, go_sem, Nat.reduceEqDiff, Nat.reduceAdd, Nat.reduceLeDiff, undef]
    exact finL_ret [] ⟨rfl, rfl, rfl, rfl, _, rfl, res_mk rfl⟩
  | some n =>
    obtain ⟨a, b⟩ := n
    simp only [kS, go_sem, Nat.reduceEqDiff, Nat.reduceAdd, Nat.reduceLeDiff, undef]
    exact finL_ret [] ⟨rfl, rfl, rfl, rfl, _, rfl, res_mk rfl⟩
abbrev wN (f : Fl) (tl : Tl) : Int := (waysV f tl f.hs.length 0 pole0).getD 0
theorem ways_ok (f : Fl) (hf : f.OK) (tl : Tl) : ACall Tryz.prog 53 [.t (tBch f), .t (tTl tl)] [] (ret (vi (wN f tl))) := by
  refine ACall.walk k53 ?_
  unfold c53
  have h := toldI_ok f hf tl
  have e : tTl tl = .iface (match tl with | .flown _ _ => 126 | .only _ _ => 123) (.agg [vi (match tl with | .flown a _ => a | .only a _ => a), vi (match tl with | .flown _ b => b | .only _ b => b)]) := by cases tl <;> rfl
  simp only [e, go_sem, Nat.reduceEqDiff, Nat.reduceAdd, Nat.reduceLeDiff]
  refine ACallL.quiet1 h rfl ?_ rfl ?_
  · unfold sumI
    rw [e]
    rfl
  simp only [go_sem, Nat.reduceEqDiff]
  exact finL_ret [] ⟨rfl, rfl, rfl, rfl, _, rfl, res_mk rfl⟩
abbrev allN (f : Fl) : Int := wN f (.only (-1) 0)
theorem all_ok (f : Fl) (hf : f.OK) : ACall Tryz.prog 30 [.t (tBch f)] [] (ret (vi (allN f))) := by
  refine ACall.walk k30 ?_
  unfold c30
  simp only [go_sem, Nat.reduceEqDiff, Nat.reduceAdd, Nat.reduceLeDiff, Int.reduceNeg]
  refine ACallL.quiet1 (ways_ok f hf (.only (-1) 0)) rfl rfl rfl ?_
  simp only [go_sem, Nat.reduceEqDiff, Int.reduceNeg]
  exact finL_ret [] ⟨rfl, rfl, rfl, rfl, _, rfl, res_mk rfl⟩
abbrev spO (f : Fl) (tl : Tl) : Option (Int × Int) := spanV f tl f.hs.length 0 pole0
abbrev spanO (f : Fl) (tl : Tl) : Out := match spO f tl with | some s => .ret (.t (tSp s)) | none => .pan (rfs 10)
theorem span_ok (f : Fl) (hf : f.OK) (tl : Tl) : ACall Tryz.prog 54 [.t (tBch f), .t (tTl tl)] [] (res (spanO f tl)) := by
  refine ACall.walk k54 ?_
  unfold c54
  have h := toldS_ok f hf tl
  have e : tTl tl = .iface (match tl with | .flown _ _ => 126 | .only _ _ => 123) (.agg [vi (match tl with | .flown a _ => a | .only a _ => a), vi (match tl with | .flown _ b => b | .only _ b => b)]) := by cases tl <;> rfl
  simp only [e, go_sem, Nat.reduceEqDiff, Nat.reduceAdd, Nat.reduceLeDiff]
  refine ACallL.quiet1 h rfl ?_ rfl ?_
  · unfold sumS
    rw [e]
    rfl
  cases hs : spanV f tl f.hs.length 0 pole0 with
  | none =>
    simp only [go_sem, Nat.reduceEqDiff, Nat.reduceAdd, undef, Option.getD_none, Option.isSome_none, tSp]
    refine ACallL.quiet1 (ask_ok false 10) rfl rfl rfl ?_
    simp only [askO, go_sem, Nat.reduceEqDiff]
    exact finL_pan [] ⟨rfl, rfl, rfl, rfl, res_mk (by simp only [spanO, spO, hs])⟩
  | some s =>
    obtain ⟨a, b⟩ := s
    simp only [go_sem, Nat.reduceEqDiff, Nat.reduceAdd, undef, Option.getD_some, Option.isSome_some, tSp]
    refine ACallL.quiet1 (ask_ok true 10) rfl rfl rfl ?_
    simp only [askO, go_sem, Nat.reduceEqDiff, Nat.reduceAdd, undef]
    exact finL_ret [] ⟨rfl, rfl, rfl, rfl, _, rfl, res_mk (by simp only [spanO, spO, hs]; rfl)⟩
open Go Go.Ab
def paths (f : Fl) : Nat → Nat → Pole → List (List Step)
  | 0, _, _ => [[]]
  | l + 1, h, p => (stepsL f p h).flatMap fun s => (paths f l (h + 1) s.1).map (s :: ·)
def prodF (tl : Tl) : Nat → List Step → Int
  | _, [] => 1
  | h, s :: r => prodF tl (h + 1) r * (tl.cnt s h : Nat)
def sumF (tl : Tl) : Nat → List Step → Int
  | _, [] => 0
  | h, s :: r => sumF tl (h + 1) r + (tl.cnt s h : Nat)
def sumO : List Int → Option Int
  | [] => none
  | x :: r => some (x + r.sum)
def hullO : List Int → Option (Int × Int)
  | [] => none
  | x :: r => some (r.foldl min x, r.foldl max x)
def joinO {X : Type} (jn : X → X → X) : Option X → Option X → Option X
  | some x, some y => some (jn x y)
  | none, y => y
  | x, none => x
theorem foldS_comb {X : Type} (val : Pole → Option X) (st : Step → X → X) (jn : X → X → X) (comb : List Int → Option X) (G : Step → List Int) (h0 : comb [] = none) (happ : ∀ a b, comb (a ++ b) = joinO jn (comb a) (comb b))
    (hv : ∀ s, comb (G s) = (val s.1).map (st s)) (L : List Step) : foldS val st jn L = comb (L.flatMap G) := by
  induction L using snoc_ind with
  | h0 => exact h0.symm
  | h1 l s ih =>
    rw [foldS_snoc, List.flatMap_append, happ, ih]
    simp only [List.flatMap_cons, List.flatMap_nil, List.append_nil, hv]
    unfold stepAcc
    cases val s.1 with
    | none => cases comb (l.flatMap G) <;> rfl
    | some r => cases comb (l.flatMap G) <;> rfl
theorem sumO_app (a b : List Int) : sumO (a ++ b) = joinO (· + ·) (sumO a) (sumO b) := by
  cases a with
  | nil => cases b <;> rfl
  | cons x a =>
    cases b with
    | nil => simp [sumO, joinO]
    | cons y b => simp [sumO, joinO, List.sum_append]; omega
theorem sumO_mul (c : Int) (l : List Int) : sumO (l.map (· * c)) = (sumO l).map (· * c) := by
  have : ∀ l : List Int, (l.map (· * c)).sum = l.sum * c := fun l => by
    induction l with
    | nil => simp
    | cons x l ih => simp only [List.map_cons, List.sum_cons, ih, Int.add_mul]
  cases l with
  | nil => rfl
  | cons x l => simp only [sumO, List.map_cons, this, Option.map_some, Int.add_mul]
theorem foldl_min' (r : List Int) (x y : Int) : r.foldl min (min x y) = min x (r.foldl min y) := by
  induction r generalizing y with
  | nil => rfl
  | cons z r ih => simp only [List.foldl_cons]; rw [show min (min x y) z = min x (min y z) by omega, ih]
theorem foldl_max' (r : List Int) (x y : Int) : r.foldl max (max x y) = max x (r.foldl max y) := by
  induction r generalizing y with
  | nil => rfl
  | cons z r ih => simp only [List.foldl_cons]; rw [show max (max x y) z = max x (max y z) by omega, ih]
theorem hullO_app (a b : List Int) : hullO (a ++ b) = joinO jnS (hullO a) (hullO b) := by
  cases a with
  | nil => cases b <;> rfl
  | cons x a =>
    cases b with
    | nil => simp [hullO, joinO]
    | cons y b => simp only [hullO, joinO, jnS, List.cons_append, List.foldl_append, List.foldl_cons, foldl_min', foldl_max']
theorem hullO_add (c : Int) (l : List Int) : hullO (l.map (· + c)) = (hullO l).map fun s => (s.1 + c, s.2 + c) := by
  have h1 : ∀ (l : List Int) (x : Int), (l.map (· + c)).foldl min (x + c) = l.foldl min x + c := fun l => by
    induction l with
    | nil => intro x; rfl
    | cons y l ih => intro x; simp only [List.map_cons, List.foldl_cons]; rw [show min (x + c) (y + c) = min x y + c by omega, ih]
  have h2 : ∀ (l : List Int) (x : Int), (l.map (· + c)).foldl max (x + c) = l.foldl max x + c := fun l => by
    induction l with
    | nil => intro x; rfl
    | cons y l ih => intro x; simp only [List.map_cons, List.foldl_cons]; rw [show max (x + c) (y + c) = max x y + c by omega, ih]
  cases l with
  | nil => rfl
  | cons x l => simp only [hullO, List.map_cons, h1, h2, Option.map_some]
theorem waysV_eq (f : Fl) (tl : Tl) : ∀ (l h : Nat) (p : Pole), waysV f tl l h p = sumO ((paths f l h p).map (prodF tl h))
  | 0, _, _ => rfl
  | l + 1, h, p => by
    have h1 := foldS_comb (waysV f tl l (h + 1)) (stI tl h) (· + ·) sumO (fun s => ((paths f l (h + 1) s.1).map (prodF tl (h + 1))).map (· * ((tl.cnt s h : Nat) : Int))) rfl sumO_app
      (fun s => by rw [sumO_mul, waysV_eq f tl l (h + 1)]) (stepsL f p h)
    refine h1.trans (congrArg sumO ?_)
    simp only [paths, List.map_flatMap, List.map_map]
    rfl
theorem spanV_eq (f : Fl) (tl : Tl) : ∀ (l h : Nat) (p : Pole), spanV f tl l h p = hullO ((paths f l h p).map (sumF tl h))
  | 0, _, _ => rfl
  | l + 1, h, p => by
    have h1 := foldS_comb (spanV f tl l (h + 1)) (stS tl h) jnS hullO (fun s => ((paths f l (h + 1) s.1).map (sumF tl (h + 1))).map (· + ((tl.cnt s h : Nat) : Int))) rfl hullO_app
      (fun s => by rw [hullO_add, spanV_eq f tl l (h + 1)]) (stepsL f p h)
    refine h1.trans (congrArg hullO ?_)
    simp only [paths, List.map_flatMap, List.map_map]
    rfl
def kset (m : Nat) : List Nat := (List.range 3).filter m.testBit
def kls (f : Fl) : Nat → Nat → List (List Nat)
  | 0, _ => [[]]
  | l + 1, h => (kset (Kf f h)).flatMap fun k => (kls f l (h + 1)).map (k :: ·)
def runK (q : Int) : Pole → List Nat → List Step
  | _, [] => []
  | p, k :: r => ((hourF q p k).1, (hourF q p k).2, k) :: runK q (hourF q p k).1 r
def okK (f : Fl) : Nat → Pole → List Nat → Bool
  | _, _, [] => true
  | h, p, k :: r => (if (hourF f.quiet p k).2 then Uf f h else Df f h) && okK f (h + 1) (hourF f.quiet p k).1 r
theorem filter_flatMap {α β : Type} (p : β → Bool) (g : α → List β) (l : List α) : (l.flatMap g).filter p = l.flatMap fun a => (g a).filter p := by
  induction l with
  | nil => rfl
  | cons a l ih => simp only [List.flatMap_cons, List.filter_append, ih]
theorem paths_eq (f : Fl) : ∀ (l h : Nat) (p : Pole), paths f l h p = ((kls f l h).filter (okK f h p)).map (runK f.quiet p)
  | 0, _, _ => rfl
  | l + 1, h, p => by
    have key : ∀ k : Nat, (stepAt f p h k).toList.flatMap (fun s => (paths f l (h + 1) s.1).map (s :: ·)) =
        (([k].filter (Kf f h).testBit).flatMap fun k => ((kls f l (h + 1)).map (k :: ·)).filter (okK f h p)).map (runK f.quiet p) := fun k => by
      cases hb : (Kf f h).testBit k with
      | false =>
        have : stepAt f p h k = none := by simp [stepAt, hb]
        rw [this]
        simp [hb]
      | true =>
        have hfil : ∀ b : Bool, (if (hourF f.quiet p k).2 then Uf f h else Df f h) = b → ((kls f l (h + 1)).map (k :: ·)).filter (okK f h p) = if b then ((kls f l (h + 1)).filter (okK f (h + 1) (hourF f.quiet p k).1)).map (k :: ·) else [] := fun b hb => by
          rw [List.filter_map]
          have : (okK f h p ∘ fun x => k :: x) = fun r => b && okK f (h + 1) (hourF f.quiet p k).1 r := by
            funext r
            simp only [Function.comp, okK, hb]
          rw [this]
          cases b <;> simp
        cases hc : (if (hourF f.quiet p k).2 then Uf f h else Df f h) with
        | false =>
          have : stepAt f p h k = none := by simp only [stepAt, hb, hc]; simp
          rw [this]
          simp [hb, hfil false hc]
        | true =>
          have : stepAt f p h k = some ((hourF f.quiet p k).1, (hourF f.quiet p k).2, k) := by simp only [stepAt, hb, hc]; simp
          rw [this]
          simp only [Option.toList_some, List.flatMap_cons, List.flatMap_nil, List.append_nil, List.filter_cons, hb, if_true, List.filter_nil, hfil true hc, paths_eq f l (h + 1), List.map_map]
          rfl
    simp only [paths, kls, stepsL, stepsK, kset, List.nil_append, List.flatMap_append, key]
    rw [show List.range 3 = [0] ++ [1] ++ [2] from rfl]
    simp only [List.filter_append, List.flatMap_append, List.map_append, filter_flatMap]
open Go Go.Ab
def upsP (q : Int) (p : Pole) (ks : List Nat) : List Bool := (runK q p ks).map (·.2.1)
abbrev ups (f : Fl) (ks : List Nat) : List Bool := upsP f.quiet pole0 ks
abbrev upAt (f : Fl) (ks : List Nat) (h : Nat) : Bool := (ups f ks).getD h false
def right (f : Fl) (ss : List Sn) (ks : List Nat) : Bool := ss.all fun s => upAt f ks s.h.toNat == s.up
abbrev rows (f : Fl) : List (List Nat) := kls f f.hs.length 0
def truths (f : Fl) : List (List Nat) := (rows f).filter (right f f.ss)
theorem runK_len (q : Int) : ∀ (p : Pole) (ks : List Nat), (runK q p ks).length = ks.length
  | _, [] => rfl
  | _, k :: r => by simp only [runK, List.length_cons, runK_len q]
theorem upsP_len (q : Int) (p : Pole) (ks : List Nat) : (upsP q p ks).length = ks.length := by simp [upsP, runK_len]
theorem upsP_cons (q : Int) (p : Pole) (k : Nat) (r : List Nat) : upsP q p (k :: r) = (hourF q p k).2 :: upsP q (hourF q p k).1 r := rfl
theorem kls_mem (f : Fl) : ∀ (l h : Nat) (ks : List Nat), ks ∈ kls f l h ↔ ks.length = l ∧ ∀ (i k : Nat), ks[i]? = some k → k ∈ kset (Kf f (h + i))
  | 0, h, ks => by
    simp only [kls, List.mem_singleton]
    constructor
    · rintro rfl; simp
    · rintro ⟨h1, _⟩; exact List.eq_nil_of_length_eq_zero h1
  | l + 1, h, ks => by
    simp only [kls, List.mem_flatMap, List.mem_map]
    constructor
    · rintro ⟨k, hk, r, hr, rfl⟩
      obtain ⟨h1, h2⟩ := (kls_mem f l (h + 1) r).1 hr
      refine ⟨by simp [h1], fun i k' hi => ?_⟩
      cases i with
      | zero => simp at hi; subst hi; exact hk
      | succ i =>
        have := h2 i k' (by simpa using hi)
        rwa [show h + 1 + i = h + (i + 1) by omega] at this
    · rintro ⟨h1, h2⟩
      cases ks with
      | nil => simp at h1
      | cons k r =>
        refine ⟨k, h2 0 k rfl, r, (kls_mem f l (h + 1) r).2 ⟨by simpa using h1, fun i k' hi => ?_⟩, rfl⟩
        have := h2 (i + 1) k' (by simpa using hi)
        rwa [show h + (i + 1) = h + 1 + i by omega] at this
theorem kset_mem (m k : Nat) : k ∈ kset m ↔ k < 3 ∧ m.testBit k = true := by simp [kset]
theorem rows_len {f : Fl} {ks : List Nat} (h : ks ∈ rows f) : ks.length = f.hs.length := ((kls_mem f _ _ _).1 h).1
theorem okK_iff (f : Fl) : ∀ (h : Nat) (p : Pole) (ks : List Nat), okK f h p ks = true ↔ ∀ (i : Nat) (u : Bool), (upsP f.quiet p ks)[i]? = some u → (if u then Uf f (h + i) else Df f (h + i)) = true
  | h, p, [] => by simp [okK, upsP, runK]
  | h, p, k :: r => by
    simp only [okK, Bool.and_eq_true, okK_iff f (h + 1), upsP_cons]
    constructor
    · rintro ⟨h1, h2⟩ i u hi
      cases i with
      | zero => simp at hi; subst hi; exact h1
      | succ i =>
        have := h2 i u (by simpa using hi)
        rwa [show h + 1 + i = h + (i + 1) by omega] at this
    · intro h1
      refine ⟨h1 0 _ rfl, fun i u hi => ?_⟩
      have := h1 (i + 1) u (by simpa using hi)
      rwa [show h + (i + 1) = h + 1 + i by omega] at this
theorem said_iff (up : Bool) (ss : List Sn) (i : Nat) : said up ss i = true ↔ ∃ s ∈ ss, s.up = up ∧ s.h = i := by simp [said]
theorem okK_right (f : Fl) (hf : f.OK) (ks : List Nat) (hk : ks.length = f.hs.length) : okK f 0 pole0 ks = right f f.ss ks := by
  rw [Bool.eq_iff_iff, okK_iff]
  unfold right
  rw [List.all_eq_true]
  have hlen : (ups f ks).length = f.hs.length := by rw [upsP_len, hk]
  constructor
  · intro h s hs
    obtain ⟨h0, h1⟩ := hf.ss s hs
    have hlt : s.h.toNat < (ups f ks).length := by omega
    have hg := List.getElem?_eq_getElem hlt
    have hu := h s.h.toNat _ hg
    rw [beq_iff_eq, upAt, List.getD_eq_getElem?_getD, hg, Option.getD_some]
    generalize (ups f ks)[s.h.toNat] = u at *
    cases u with
    | true =>
      simp only [if_true, Uf, Bool.and_eq_true, Bool.not_eq_true', Nat.zero_add] at hu
      cases hsu : s.up with
      | true => rfl
      | false =>
        have : said false f.ss s.h.toNat = true := (said_iff _ _ _).2 ⟨s, hs, hsu, by omega⟩
        rw [this] at hu; cases hu.2
    | false =>
      simp only [Bool.false_eq_true, if_false, Df, Bool.and_eq_true, Bool.not_eq_true', Nat.zero_add] at hu
      cases hsu : s.up with
      | false => rfl
      | true =>
        have : said true f.ss s.h.toNat = true := (said_iff _ _ _).2 ⟨s, hs, hsu, by omega⟩
        rw [this] at hu; cases hu.2
  · intro h i u hi
    have hlt : i < f.hs.length := by rw [← hlen]; exact (List.getElem?_eq_some_iff.1 hi).1
    have key : ∀ s ∈ f.ss, s.h = i → s.up = u := fun s hs e => by
      have := h s hs
      rw [beq_iff_eq, upAt, List.getD_eq_getElem?_getD, show s.h.toNat = i by omega, hi, Option.getD_some] at this
      exact this.symm
    rw [Nat.zero_add]
    cases u with
    | true =>
      simp only [if_true, Uf, Bool.and_eq_true, Bool.not_eq_true', decide_eq_true_eq]
      refine ⟨hlt, ?_⟩
      rw [← Bool.not_eq_true, said_iff]
      rintro ⟨s, hs, h1, h2⟩
      rw [key s hs h2] at h1
      cases h1
    | false =>
      simp only [Bool.false_eq_true, if_false, Df, Bool.and_eq_true, Bool.not_eq_true', decide_eq_true_eq]
      refine ⟨hlt, ?_⟩
      rw [← Bool.not_eq_true, said_iff]
      rintro ⟨s, hs, h1, h2⟩
      rw [key s hs h2] at h1
      cases h1
theorem paths_truths (f : Fl) (hf : f.OK) : paths f f.hs.length 0 pole0 = (truths f).map (runK f.quiet pole0) := by
  rw [paths_eq]
  congr 1
  unfold truths
  apply List.filter_congr
  intro ks hks
  exact okK_right f hf ks (rows_len hks)
def upC (a b : Int) : Nat → List Bool → Nat
  | _, [] => 0
  | h, u :: r => upC a b (h + 1) r + if u = true ∧ a ≤ (h : Int) ∧ (h : Int) < b then 1 else 0
abbrev upN (f : Fl) (a b : Int) (ks : List Nat) : Nat := upC a b 0 (ups f ks)
theorem sumF_up (q : Int) (a b : Int) : ∀ (p : Pole) (ks : List Nat) (h : Nat), sumF (.flown a b) h (runK q p ks) = (upC a b h (upsP q p ks) : Nat)
  | _, [], _ => rfl
  | p, k :: r, h => by
    rw [upsP_cons]
    simp only [runK, sumF, upC, sumF_up q a b, Tl.cnt, Int.natCast_add]
open Classical in
theorem prodF_only (q : Int) (a k : Int) : ∀ (p : Pole) (ks : List Nat) (h : Nat), prodF (.only a k) h (runK q p ks) = if ∃ i x : Nat, ks[i]? = some x ∧ ((h + i : Nat) : Int) = a ∧ (x : Int) ≠ k then 0 else 1
  | _, [], _ => by simp [runK, prodF]
  | p, x :: r, h => by
    simp only [runK, prodF, prodF_only q a k _ r (h + 1), Tl.cnt]
    have hex : (∃ i y : Nat, (x :: r)[i]? = some y ∧ ((h + i : Nat) : Int) = a ∧ (y : Int) ≠ k) ↔ ((h : Int) = a ∧ (x : Int) ≠ k) ∨ ∃ i y : Nat, r[i]? = some y ∧ ((h + 1 + i : Nat) : Int) = a ∧ (y : Int) ≠ k := by
      constructor
      · rintro ⟨i, y, h1, h2, h3⟩
        cases i with
        | zero => simp at h1; subst h1; exact .inl ⟨by simpa using h2, h3⟩
        | succ i => exact .inr ⟨i, y, by simpa using h1, by rw [← h2]; congr 1; omega, h3⟩
      · rintro (⟨h1, h2⟩ | ⟨i, y, h1, h2, h3⟩)
        · exact ⟨0, x, rfl, by simpa using h1, h2⟩
        · exact ⟨i + 1, y, by simpa using h1, by rw [← h2]; congr 1; omega, h3⟩
    by_cases c1 : ((h : Int) = a ∧ (x : Int) ≠ k)
    · rw [if_pos (hex.2 (.inl c1)), if_pos c1]; simp
    · rw [if_neg c1]
      by_cases c2 : ∃ i y : Nat, r[i]? = some y ∧ ((h + 1 + i : Nat) : Int) = a ∧ (y : Int) ≠ k
      · rw [if_pos c2, if_pos (hex.2 (.inr c2))]; simp
      · rw [if_neg c2, if_neg (fun h => (hex.1 h).elim c1 c2)]; simp
theorem allN_eq (f : Fl) (hf : f.OK) : allN f = (truths f).length := by
  unfold allN wN
  rw [waysV_eq, paths_truths f hf, List.map_map]
  have h1 : (prodF (.only (-1) 0) 0 ∘ runK f.quiet pole0) = fun _ => 1 := by
    funext ks
    simp only [Function.comp, prodF_only]
    rw [if_neg]
    rintro ⟨i, x, _, h, _⟩
    omega
  rw [h1]
  cases truths f with
  | nil => rfl
  | cons t l =>
    have : ∀ l : List (List Nat), (l.map fun _ => (1 : Int)).sum = l.length := fun l => by
      induction l with
      | nil => rfl
      | cons x l ih => simp only [List.map_cons, List.sum_cons, ih, List.length_cons]; omega
    simp only [List.map_cons, sumO, this, Option.getD_some, List.length_cons]
    omega
theorem spO_eq (f : Fl) (hf : f.OK) (a b : Int) : spO f (.flown a b) = hullO ((truths f).map fun ks => ((upN f a b ks : Nat) : Int)) := by
  unfold spO
  rw [spanV_eq, paths_truths f hf, List.map_map]
  congr 1
  apply List.map_congr_left
  intro ks _
  exact sumF_up _ _ _ _ _ _
open Go Go.Ab
theorem upC_pos (a b : Int) : ∀ (h : Nat) (l : List Bool), 0 < upC a b h l ↔ ∃ i : Nat, l[i]? = some true ∧ a ≤ ((h + i : Nat) : Int) ∧ ((h + i : Nat) : Int) < b
  | h, [] => by simp [upC]
  | h, u :: r => by
    have ih := upC_pos a b (h + 1) r
    simp only [upC]
    constructor
    · intro h1
      by_cases c : u = true ∧ a ≤ (h : Int) ∧ (h : Int) < b
      · exact ⟨0, by simp [c.1], by simpa using c.2⟩
      · rw [if_neg c] at h1
        obtain ⟨i, h2, h3, h4⟩ := ih.1 (by omega)
        exact ⟨i + 1, by simpa using h2, by omega, by omega⟩
    · rintro ⟨i, h2, h3, h4⟩
      cases i with
      | zero => rw [if_pos ⟨by simpa using h2, by simpa using h3, by simpa using h4⟩]; omega
      | succ i =>
        have := ih.2 ⟨i, by simpa using h2, by omega, by omega⟩
        omega
theorem upC_one (a : Nat) : ∀ (h : Nat) (l : List Bool), upC a (a + 1) h l ≤ 1
  | h, [] => by simp [upC]
  | h, u :: r => by
    have ih := upC_one a (h + 1) r
    simp only [upC]
    by_cases c : u = true ∧ (a : Int) ≤ (h : Int) ∧ (h : Int) < (a : Int) + 1
    · have : ¬ 0 < upC a ((a : Int) + 1) (h + 1) r := by
        rw [upC_pos]
        rintro ⟨i, _, h3, h4⟩
        omega
      rw [if_pos c]
      omega
    · rw [if_neg c]; omega
theorem upN_one (f : Fl) (h : Nat) (ks : List Nat) : upN f h (h + 1) ks = if upAt f ks h then 1 else 0 := by
  have h1 := upC_one h 0 (ups f ks)
  have h2 := upC_pos h (h + 1) 0 (ups f ks)
  have h3 : (∃ i : Nat, (ups f ks)[i]? = some true ∧ (h : Int) ≤ ((0 + i : Nat) : Int) ∧ ((0 + i : Nat) : Int) < (h : Int) + 1) ↔ upAt f ks h = true := by
    unfold upAt
    rw [List.getD_eq_getElem?_getD]
    constructor
    · rintro ⟨i, h4, h5, h6⟩
      have : i = h := by omega
      subst this
      rw [h4]; rfl
    · intro h4
      refine ⟨h, ?_, by omega, by omega⟩
      cases hg : (ups f ks)[h]? with
      | none => rw [hg] at h4; cases h4
      | some u => rw [hg] at h4; simp at h4; rw [h4]
  rw [h3] at h2
  unfold upN
  split
  · rename_i c; have := h2.2 c; omega
  · rename_i c
    have : ¬ 0 < upC h (h + 1) 0 (ups f ks) := fun h => c (h2.1 h)
    omega
def b01 : Bool → Int
  | true => 1
  | false => 0
theorem b01_ite (b : Bool) : (if b then (1 : Int) else 0) = b01 b := by cases b <;> rfl
theorem hullO_01 {α : Type} (p : α → Bool) (l : List α) : hullO (l.map fun x => b01 (p x)) = if l.isEmpty then none else some (b01 (l.all p), b01 (l.any p)) := by
  have h1 : ∀ (l : List α) (c : Bool), (l.map fun x => b01 (p x)).foldl min (b01 c) = b01 (c && l.all p) := fun l => by
    induction l with
    | nil => intro c; simp
    | cons x l ih =>
      intro c
      have : min (b01 c) (b01 (p x)) = b01 (c && p x) := by cases c <;> cases p x <;> rfl
      simp only [List.map_cons, List.foldl_cons, List.all_cons, this, ih, Bool.and_assoc]
  have h2 : ∀ (l : List α) (c : Bool), (l.map fun x => b01 (p x)).foldl max (b01 c) = b01 (c || l.any p) := fun l => by
    induction l with
    | nil => intro c; simp
    | cons x l ih =>
      intro c
      have : max (b01 c) (b01 (p x)) = b01 (c || p x) := by cases c <;> cases p x <;> rfl
      simp only [List.map_cons, List.foldl_cons, List.any_cons, this, ih, Bool.or_assoc]
  cases l with
  | nil => rfl
  | cons x l => simp only [List.map_cons, hullO, h1, h2, List.all_cons, List.any_cons, List.isEmpty_cons, Bool.false_eq_true, if_false]
def sure (f : Fl) (h : Nat) : Bool := (truths f).all fun ks => upAt f ks h
def perh (f : Fl) (h : Nat) : Bool := (truths f).any fun ks => upAt f ks h
def noT (f : Fl) : Bool := (truths f).isEmpty
theorem spO_one (f : Fl) (hf : f.OK) (h : Nat) : spO f (.flown h (h + 1)) = if noT f then none else some (b01 (sure f h), b01 (perh f h)) := by
  rw [spO_eq f hf]
  have : ((truths f).map fun ks => ((upN f h (h + 1) ks : Nat) : Int)) = (truths f).map fun ks => b01 (upAt f ks h) := by
    apply List.map_congr_left
    intro ks _
    rw [upN_one, ← b01_ite]
    split <;> rfl
  rw [this, hullO_01]
  rfl
def maskOf (p : Nat → Bool) : Nat → Nat
  | 0 => 0
  | k + 1 => if p k then maskOf p k ||| 2 ^ k else maskOf p k
theorem maskOf_lt (p : Nat → Bool) : ∀ k, maskOf p k < 2 ^ k
  | 0 => by simp [maskOf]
  | k + 1 => by
    have ih := maskOf_lt p k
    have h2 : 2 ^ (k + 1) = 2 ^ k + 2 ^ k := by rw [Nat.pow_succ]; omega
    simp only [maskOf]
    split
    · exact Nat.or_lt_two_pow (by omega) (by omega)
    · omega
theorem maskOf_bit (p : Nat → Bool) : ∀ k i, (maskOf p k).testBit i = (decide (i < k) && p i)
  | 0, i => by simp [maskOf]
  | k + 1, i => by
    simp only [maskOf]
    have ih := maskOf_bit p k i
    by_cases hi : i = k
    · subst hi
      cases hp : p i with
      | true => simp [ih]
      | false => simp [ih]
    · have e : decide (i < k + 1) = decide (i < k) := decide_eq_decide.2 (by omega)
      have e2 : (2 ^ k).testBit i = false := by rw [Nat.testBit_two_pow]; simp; omega
      split
      · rw [Nat.testBit_or, ih, e2, e]; simp
      · rw [ih, e]
theorem or_bit {m k : Nat} (hm : m < 2 ^ k) (hk : k < 60) (c : Bool) : bits .or .i64 (m : Int) (IntKind.i64.wrap (b01 c * 2 ^ min k 64)) = ((if c then m ||| 2 ^ k else m : Nat) : Int) := by
  have h2 : 2 ^ k < 9223372036854775808 := Nat.lt_of_lt_of_le (Nat.pow_lt_pow_right (by decide) hk) (by decide)
  cases c with
  | true =>
    simp only [if_true, b01]
    rw [shl_one (by omega), bits_or (by omega) h2]
  | false =>
    simp only [Bool.false_eq_true, if_false, Int.zero_mul, b01]
    rw [show IntKind.i64.wrap 0 = ((0 : Nat) : Int) from rfl, bits_or (by omega) (by omega), Nat.or_zero]
abbrev setsO (f : Fl) : Out := if noT f && decide (0 < f.hs.length) then .pan (rfs 10) else .ret (.tup [.t (vi (maskOf (sure f) f.hs.length : Nat)), .t (vi (maskOf (perh f) f.hs.length : Nat))])
set_option maxRecDepth 4000 in
theorem sets_ok (f : Fl) (hf : f.OK) : ACall Tryz.prog 31 [.t (tBch f)] [] (res (setsO f)) := by
  refine ACall.walk k31 ?_
  unfold c31
  have hn := hf.nh
  simp only [tBch, go_sem, Nat.reduceEqDiff, Nat.reduceAdd, cellsB_3, List.length_map]
  refine awpL_for (i := 12) (L := 11) f.hs.length (fun k s => (0 < k → noT f = false) ∧ s = { env := [(12, .t (vi k)), (11, .t (vi f.hs.length)), (0, .t (tBch f)), (2, .t (vi (maskOf (sure f) k : Nat))), (3, .t (vi (maskOf (perh f) k : Nat)))], σ := [] }) ?_ ⟨_, Sub.gc [] [12, 11, 0, 2, 3] rfl rfl, by simp, rfl⟩ ?_ ?_
  · rintro k s ⟨_, rfl⟩; exact ⟨rfl, rfl⟩
  · rintro k s hk ⟨_, rfl⟩
    have hw : IntKind.i64.wrap ((k : Int) + 1) = ((k + 1 : Nat) : Int) := by rw [wrap_id (by omega) (by omega)]; omega
    have hw2 : IntKind.i64.wrap ((k : Int) + 1) = (k : Int) + 1 := wrap_id (by omega) (by omega)
    have h56 := span_ok f hf (.flown k (k + 1))
    have hsp := spO_one f hf k
    unfold spanO at h56
    rw [hsp] at h56
    have o1 := or_bit (maskOf_lt (sure f) k) (by omega) (sure f k)
    have o2 := or_bit (maskOf_lt (perh f) k) (by omega) (perh f k)
    have m1 : maskOf (sure f) (k + 1) = if sure f k then maskOf (sure f) k ||| 2 ^ k else maskOf (sure f) k := rfl
    have m2 : maskOf (perh f) (k + 1) = if perh f k then maskOf (perh f) k ||| 2 ^ k else maskOf (perh f) k := rfl
    rw [← m1] at o1
    rw [← m2] at o2
    cases hT : noT f with
    | true =>
      rw [hT] at h56
      simp only [if_true] at h56
      simp only [go_sem, Nat.reduceEqDiff, Nat.reduceAdd, Nat.reduceLeDiff, hw2]
      refine ACallL.fresh1 h56 rfl ?_
      simp only [go_sem]
      exact finL_pan [] ⟨rfl, rfl, rfl, rfl, res_mk (by
        have : decide (0 < f.hs.length) = true := by simp; omega
        simp only [setsO, hT, this]; rfl)⟩
    | false =>
      rw [hT] at h56
      simp only [Bool.false_eq_true, if_false, tSp] at h56
      simp only [go_sem, Nat.reduceEqDiff, Nat.reduceAdd, Nat.reduceLeDiff, hw2]
      refine ACallL.fresh1 h56 rfl ?_
      simp only [go_sem, Nat.reduceEqDiff, Nat.reduceAdd, Nat.reduceLeDiff, undef, nat_neg, o1, o2, hw]
      exact ⟨_, Sub.gc [] [12, 11, 0, 2, 3] rfl rfl, rfl⟩
  · rintro s ⟨hT, rfl⟩
    simp only [go_sem, Nat.reduceEqDiff]
    refine finL_ret [] ⟨rfl, rfl, rfl, rfl, _, rfl, res_mk ?_⟩
    have : (noT f && decide (0 < f.hs.length)) = false := by
      by_cases c : 0 < f.hs.length
      · rw [hT c]; rfl
      · simp [c]
    simp only [setsO, this]
    rfl
open Go Go.Ab
def twoE (a b e : Int) : Out := .ret (.tup [.t (vi a), .t (vi b), .t (vi e)])
def spanE (s : Int × Int) (e : Int) : Out := .ret (.tup [.t (tSp s), .t (vi e)])
def Fl.isH (f : Fl) (h : Int) : Bool := wI h 0 (f.hs.length - 1)
theorem isH_iff {f : Fl} {h : Int} : f.isH h = true ↔ 0 ≤ h ∧ h < f.hs.length := by unfold Fl.isH wI; simp; omega
def specUp (f : Fl) : Int × Int × Int := if f.ok then (if noT f then (0, 0, 10) else ((maskOf (sure f) f.hs.length : Nat), (maskOf (perh f) f.hs.length : Nat), 0)) else (0, 0, 1)
theorem noT_len (f : Fl) : decide (((truths f).length : Int) > 0) = !noT f := by
  unfold noT
  cases truths f with
  | nil => rfl
  | cons x l => simp
theorem Up_ok (f : Fl) (hl : f.hs.length < 9223372036854775808 ∧ f.ss.length < 9223372036854775808) : ACall Tryz.prog 11 [.t (.agg (fl5 f))] [] (res (twoE (specUp f).1 (specUp f).2.1 (specUp f).2.2)) := by
  refine ACall.walkD k11 ?_
  have h45 := open_ok f true hl
  unfold c11 fl5
  simp only [fl5] at h45
  simp only [go_sem, Nat.reduceEqDiff, Nat.reduceAdd]
  refine ACallL.fresh1 h45 rfl ?_
  cases hok : f.ok
  · simp only [openO, hok, go_sem, Nat.reduceEqDiff]
    refine finDL_pan rfl rfl ((answer_pan rfl).mono fun σ' h => ?_)
    subst h
    exact ⟨_, rfl, [], rfl, rfl, res_mk (by simp only [specUp, hok]; rfl)⟩
  · have hf := (f.ok_iff).1 hok
    have h51 := all_ok f hf
    rw [allN_eq f hf] at h51
    have h52 := sets_ok f hf
    simp only [openO, hok, go_sem, Nat.reduceEqDiff]
    refine ACallL.fresh1 h51 rfl ?_
    simp only [go_sem, Nat.reduceEqDiff, noT_len]
    refine ACallL.quiet1 (ask_ok _ 10) rfl rfl (by simp only [askO]; split <;> rfl) ?_
    cases hT : noT f
    · simp only [askO, go_sem, Nat.reduceEqDiff, Bool.not_false]
      unfold setsO at h52
      rw [hT] at h52
      simp only [Bool.false_and, Bool.false_eq_true, if_false] at h52
      refine ACallL.fresh1 h52 rfl ?_
      simp only [go_sem, Nat.reduceEqDiff, undef]
      refine finDL_ret rfl rfl (answer_none.mono fun σ' h => ?_)
      subst h
      exact ⟨_, rfl, [], rfl, rfl, res_mk (by simp only [specUp, hok, hT]; rfl)⟩
    · simp only [askO, go_sem, Nat.reduceEqDiff, Bool.not_true]
      refine finDL_pan rfl rfl ((answer_pan rfl).mono fun σ' h => ?_)
      subst h
      exact ⟨_, rfl, [], rfl, rfl, res_mk (by simp only [specUp, hok, hT]; rfl)⟩
open Go Go.Ab
theorem rin_ok (n lo hi : Int) : ACall Tryz.prog 18 [.t (vi n), .t (vi lo), .t (vi hi)] [] (ret (vb (wI n lo hi))) := by
  refine ACall.walk k18 ?_
  unfold c18
  simp only [go_sem, Nat.reduceEqDiff, Nat.reduceAdd]
  cases hA : decide (lo ≤ n)
  · simp only [go_sem, Nat.reduceEqDiff, undef]
    exact finL_ret [] ⟨rfl, rfl, rfl, rfl, _, rfl, res_mk (by
      have : ¬ lo ≤ n := by simpa using hA
      have e : wI n lo hi = false := by simp [wI, this]
      rw [e]; rfl)⟩
  · simp only [go_sem, Nat.reduceEqDiff]
    exact finL_ret [] ⟨rfl, rfl, rfl, rfl, _, rfl, res_mk (by
      have : lo ≤ n := by simpa using hA
      have e : wI n lo hi = decide (n ≤ hi) := by simp [wI, this]
      rw [e]; rfl)⟩
theorem rhour_ok (f : Fl) (h : Int) (hl : f.hs.length < 9223372036854775808) : ACall Tryz.prog 19 [.t (.agg (fl5 f)), .t (vi h)] [] (ret (vb (f.isH h))) := by
  refine ACall.walk k19 ?_
  unfold c19 fl5
  have e1 : IntKind.i64.wrap ((f.hs.length : Int) - 1) = f.hs.length - 1 := wrap_id (by omega) (by omega)
  simp only [go_sem, Nat.reduceEqDiff, Nat.reduceAdd, Nat.reduceLeDiff, List.length_map, e1]
  refine ACallL.quiet1 (rin_ok _ _ _) rfl rfl rfl ?_
  simp only [go_sem, Nat.reduceEqDiff]
  exact finL_ret [] ⟨rfl, rfl, rfl, rfl, _, rfl, res_mk rfl⟩
def kindZ (f : Fl) (n : Int) (th : Bool) : Int := if th = true ∨ n ≥ f.high then 2 else if n < f.low then 0 else 1
def canW (f : Fl) (h : Hr) (k : Nat) (i : Nat) : Prop := (h.th ≠ 0 ∧ k = 2) ∨ (h.th ≠ 2 ∧ kindZ f (h.lo + (i : Nat)) false = k)
open Go Go.Ab
set_option maxRecDepth 4000 in
theorem rflag_ok (f : Fl) (hl : f.hs.length < 9223372036854775808 ∧ f.ss.length < 9223372036854775808) : ACall Tryz.prog 5 [.t (.agg (fl5 f))] [] (ret (vb f.ok)) := by
  refine ACall.walk k5 ?_
  unfold c5 fl5
  have bad : ¬ f.OK → f.ok = false := fun h => by rw [← Bool.not_eq_true, f.ok_iff]; exact h
  cases h1 : decide (f.low < 1)
  rotate_left
  · simp only [go_sem, Nat.reduceEqDiff, Nat.reduceAdd, Nat.reduceLeDiff, Bool.not_true, undef, h1]
    exact finL_ret [] ⟨rfl, rfl, rfl, rfl, _, rfl, res_mk (by rw [bad fun k => by have := k.low; simp at h1; omega]; rfl)⟩
  cases h2 : decide (f.low > f.high)
  rotate_left
  · simp only [go_sem, Nat.reduceEqDiff, Nat.reduceAdd, Nat.reduceLeDiff, Bool.not_true, undef, beq_self_eq_true, h1, h2]
    exact finL_ret [] ⟨rfl, rfl, rfl, rfl, _, rfl, res_mk (by rw [bad fun k => by have := k.lh; simp at h2; omega]; rfl)⟩
  cases h3 : decide (f.high > 12)
  rotate_left
  · simp only [go_sem, Nat.reduceEqDiff, Nat.reduceAdd, Nat.reduceLeDiff, Bool.not_true, undef, beq_self_eq_true, h1, h2, h3]
    exact finL_ret [] ⟨rfl, rfl, rfl, rfl, _, rfl, res_mk (by rw [bad fun k => by have := k.high; simp at h3; omega]; rfl)⟩
  have h59 := rin_ok f.quiet 1 4
  cases h4 : wI f.quiet 1 4
  · rw [h4] at h59
    simp only [go_sem, Nat.reduceEqDiff, Nat.reduceAdd, Nat.reduceLeDiff, beq_self_eq_true, h1, h2, h3]
    refine ACallL.quiet1 h59 rfl rfl rfl ?_
    simp only [go_sem, Nat.reduceEqDiff, Bool.not_true, Bool.not_false, undef, beq_self_eq_true]
    exact finL_ret [] ⟨rfl, rfl, rfl, rfl, _, rfl, res_mk (by rw [bad fun k => by have := k.quiet; simp [wI] at h4; omega]; rfl)⟩
  rw [h4] at h59
  cases h5 : decide ((f.hs.length : Int) > 9)
  rotate_left
  · simp only [go_sem, Nat.reduceEqDiff, Nat.reduceAdd, Nat.reduceLeDiff, beq_self_eq_true, h1, h2, h3]
    refine ACallL.quiet1 h59 rfl rfl rfl ?_
    simp only [go_sem, Nat.reduceEqDiff, Nat.reduceAdd, Nat.reduceLeDiff, Bool.not_true, undef, beq_self_eq_true, List.length_map, h5]
    exact finL_ret [] ⟨rfl, rfl, rfl, rfl, _, rfl, res_mk (by rw [bad fun k => by have := k.nh; simp at h5; omega]; rfl)⟩
  cases h6 : decide ((f.ss.length : Int) > 8)
  rotate_left
  · simp only [go_sem, Nat.reduceEqDiff, Nat.reduceAdd, Nat.reduceLeDiff, beq_self_eq_true, h1, h2, h3]
    refine ACallL.quiet1 h59 rfl rfl rfl ?_
    simp only [go_sem, Nat.reduceEqDiff, Nat.reduceAdd, Nat.reduceLeDiff, Bool.not_true, beq_self_eq_true, List.length_map, h5, h6]
    exact finL_ret [] ⟨rfl, rfl, rfl, rfl, _, rfl, res_mk (by rw [bad fun k => by have := k.ns; simp at h6; omega]; rfl)⟩
  simp only [go_sem, Nat.reduceEqDiff, Nat.reduceAdd, Nat.reduceLeDiff, beq_self_eq_true, h1, h2, h3]
  refine ACallL.quiet1 h59 rfl rfl rfl ?_
  simp only [go_sem, Nat.reduceEqDiff, Nat.reduceAdd, Nat.reduceLeDiff, Bool.not_true, beq_self_eq_true, List.length_map, h5, h6]
  refine awpL_loopK f.hs.length (fun k s => (∀ h ∈ f.hs.take k, Hr.ok h = true) ∧ s = { env := [(3, .t (vi k)), (1, .ptr 0 0)], σ := [.cells ((fl5 f).map .t)] }) ⟨_, Sub.gc [0] [3, 1] rfl rfl, by simp, rfl⟩ ?_
  rintro k s hk ⟨hK, rfl⟩
  simp only [fl5, go_sem, Nat.reduceEqDiff, Nat.reduceAdd, Nat.reduceLeDiff, List.length_map]
  refine BrL.mk (fun g1 => ?_) (fun g1 => ?_)
  · have hk' : k < f.hs.length := by simp at g1; omega
    have hg : f.hs[k]? = some f.hs[k] := List.getElem?_eq_getElem hk'
    have htk : f.hs.take (k + 1) = f.hs.take k ++ [f.hs[k]] := by rw [List.take_add_one, hg]; rfl
    have hmem : f.hs[k] ∈ f.hs := List.getElem_mem hk'
    have hw : IntKind.i64.wrap ((k : Int) + 1) = ((k + 1 : Nat) : Int) := by rw [wrap_id (by omega) (by omega)]; omega
    generalize f.hs[k] = x at *
    obtain ⟨lo, hi, th⟩ := x
    have badh : ¬ (0 ≤ lo ∧ lo ≤ hi ∧ hi ≤ 12 ∧ 0 ≤ th ∧ th ≤ 2) → f.ok = false := fun h => bad fun k => h (k.hs _ hmem)
    cases q1 : decide (lo < 0)
    rotate_left
    · simp only [g1, go_sem, Nat.reduceEqDiff, Nat.reduceAdd, Nat.reduceLeDiff, Bool.not_true, undef, List.getElem?_map, hg, tHr, q1]
      exact finL_ret [] ⟨rfl, rfl, rfl, rfl, _, rfl, res_mk (by rw [badh (by simp at q1; omega)]; rfl)⟩
    cases q2 : decide (lo > hi)
    rotate_left
    · simp only [g1, go_sem, Nat.reduceEqDiff, Nat.reduceAdd, Nat.reduceLeDiff, Bool.not_true, undef, beq_self_eq_true, List.getElem?_map, hg, tHr, q1, q2]
      exact finL_ret [] ⟨rfl, rfl, rfl, rfl, _, rfl, res_mk (by rw [badh (by simp at q2; omega)]; rfl)⟩
    cases q3 : decide (hi > 12)
    rotate_left
    · simp only [g1, go_sem, Nat.reduceEqDiff, Nat.reduceAdd, Nat.reduceLeDiff, Bool.not_true, undef, beq_self_eq_true, List.getElem?_map, hg, tHr, q1, q2, q3]
      exact finL_ret [] ⟨rfl, rfl, rfl, rfl, _, rfl, res_mk (by rw [badh (by simp at q3; omega)]; rfl)⟩
    have h592 := rin_ok th 0 2
    simp only [g1, go_sem, Nat.reduceEqDiff, Nat.reduceAdd, Nat.reduceLeDiff, undef, beq_self_eq_true, List.getElem?_map, hg, tHr, q1, q2, q3]
    refine ACallL.quiet1 h592 rfl rfl rfl ?_
    cases q4 : wI th 0 2
    · simp only [go_sem, Nat.reduceEqDiff, Bool.not_false, beq_self_eq_true]
      exact finL_ret [] ⟨rfl, rfl, rfl, rfl, _, rfl, res_mk (by rw [badh (by simp [wI] at q4; omega)]; rfl)⟩
    · simp only [go_sem, Nat.reduceEqDiff, Bool.not_true, beq_self_eq_true, hw]
      refine ⟨hk', _, Sub.gc [0] [3, 1] rfl rfl, ?_, rfl⟩
      intro h hh
      rw [htk] at hh
      rcases List.mem_append.1 hh with hh | hh
      · exact hK h hh
      · simp at hh
        subst hh
        simp only [Hr.ok, q4, Bool.and_true, Bool.and_eq_true, decide_eq_true_eq]
        simp at q1 q2 q3
        omega
  · have hkn : k = f.hs.length := by simp at g1; omega
    subst hkn
    rw [List.take_length] at hK
    simp only [g1, go_sem]
    refine awpL_loopK f.ss.length (fun k s => (∀ s ∈ f.ss.take k, f.isH s.h = true) ∧ s = { env := [(5, .t (vi k)), (1, .ptr 0 0)], σ := [.cells ((fl5 f).map .t)] }) ⟨_, Sub.gc [0] [5, 1] rfl rfl, by simp, rfl⟩ ?_
    rintro k s hk ⟨hS, rfl⟩
    simp only [fl5, go_sem, Nat.reduceEqDiff, Nat.reduceAdd, List.length_map]
    refine BrL.mk (fun g2 => ?_) (fun g2 => ?_)
    · have hk' : k < f.ss.length := by simp at g2; omega
      have hg : f.ss[k]? = some f.ss[k] := List.getElem?_eq_getElem hk'
      have htk : f.ss.take (k + 1) = f.ss.take k ++ [f.ss[k]] := by rw [List.take_add_one, hg]; rfl
      have hmem : f.ss[k] ∈ f.ss := List.getElem_mem hk'
      have hw : IntKind.i64.wrap ((k : Int) + 1) = ((k + 1 : Nat) : Int) := by rw [wrap_id (by omega) (by omega)]; omega
      generalize f.ss[k] = x at *
      obtain ⟨h, up⟩ := x
      have h47 := rhour_ok f h hl.1
      simp only [fl5] at h47
      simp only [g2, go_sem, Nat.reduceEqDiff, Nat.reduceAdd, List.getElem?_map, hg, tSn]
      refine ACallL.quiet1 h47 rfl rfl rfl ?_
      cases q1 : f.isH h
      · simp only [go_sem, Nat.reduceEqDiff, Nat.reduceAdd, Bool.not_false, List.getElem?_map, hg, tSn]
        have hb : f.ok = false := bad fun k => by
          have := k.ss _ hmem
          rw [← Bool.not_eq_true, isH_iff] at q1
          exact q1 this
        exact finL_ret [] ⟨rfl, rfl, rfl, rfl, _, rfl, res_mk (by rw [hb]; rfl)⟩
      · simp only [go_sem, Nat.reduceEqDiff, Nat.reduceAdd, Bool.not_true, List.getElem?_map, hg, tSn, hw]
        refine ⟨hk', _, Sub.gc [0] [5, 1] rfl rfl, ?_, rfl⟩
        intro h hh
        rw [htk] at hh
        rcases List.mem_append.1 hh with hh | hh
        · exact hS h hh
        · simp at hh
          subst hh
          exact q1
    · have hkn : k = f.ss.length := by simp at g2; omega
      subst hkn
      rw [List.take_length] at hS
      simp only [g2, go_sem]
      have : f.ok = true := by
        unfold Fl.ok
        simp at h1 h2 h3 h5 h6
        simp only [h4, Bool.and_eq_true, decide_eq_true_eq, List.all_eq_true]
        exact ⟨⟨⟨⟨⟨⟨⟨by omega, by omega⟩, by omega⟩, trivial⟩, by omega⟩, by omega⟩, hK⟩, hS⟩
      exact finL_ret [] ⟨rfl, rfl, rfl, rfl, _, rfl, res_mk (by rw [this]; rfl)⟩
def tK (ks : List Nat) : T := .slice 1 (ks.map fun k : Nat => vi k)
def poleA (q : Int) (p : Pole) (ks : List Nat) : Pole := ks.foldl (fun p (k : Nat) => (hourF q p k).1) p
theorem upsP_snoc (q : Int) : ∀ (ks : List Nat) (p : Pole) (k : Nat), upsP q p (ks ++ [k]) = upsP q p ks ++ [(hourF q (poleA q p ks) k).2]
  | [], p, k => rfl
  | x :: ks, p, k => by rw [List.cons_append, upsP_cons, upsP_snoc q ks, upsP_cons]; rfl
theorem poleA_snoc (q : Int) (ks : List Nat) (p : Pole) (k : Nat) : poleA q p (ks ++ [k]) = (hourF q (poleA q p ks) k).1 := by simp [poleA]
theorem poleA_calm (q : Int) : ∀ (ks : List Nat) (p : Pole) (n : Nat), 0 ≤ p.2 ∧ p.2 ≤ n → 0 ≤ (poleA q p ks).2 ∧ (poleA q p ks).2 ≤ (n + ks.length : Nat)
  | [], p, n, h => h
  | x :: ks, p, n, h => by
    have := poleA_calm q ks _ _ (hour_calm (q := q) (k := x) h)
    rw [List.length_cons, show n + (ks.length + 1) = n + 1 + ks.length by omega]
    exact this
theorem poleA_down (q : Int) (ks : List Nat) : ∀ (p : Pole), (p.1 = false → p.2 = 0) → (poleA q p ks).1 = false → (poleA q p ks).2 = 0 := by
  induction ks with
  | nil => intro p h; exact h
  | cons k ks ih =>
    intro p h
    refine ih _ ?_
    show (hourF q p k).1.1 = false → (hourF q p k).1.2 = 0
    unfold hourF
    split
    · simp
    · split
      · simp
      · split
        · simp
        · simp only; intro e; rename_i c _; exact absurd (.inl e) c
set_option maxRecDepth 4000 in
theorem raised_ok (f : Fl) (hq : 1 ≤ f.quiet) (ks : List Nat) (hk : ks.length ≤ 1000) (hk3 : ∀ k ∈ ks, k < 3) : ACall Tryz.prog 10 [.t (.agg (fl5 f)), .t (tK ks)] [] (ret (.slice 1 ((ups f ks).map vb))) := by
  refine ACall.walk k10 ?_
  unfold c10 fl5 tK
  simp only [go_sem, Nat.reduceEqDiff]
  refine awpL_loopK ks.length (fun j s => s = { env := [(8, .t (vi j)), (5, .loc 1 j), (6, .t (vb (poleA f.quiet pole0 (ks.take j)).1)), (7, .t (vi (poleA f.quiet pole0 (ks.take j)).2)), (1, .t (tK ks)), (2, .ptr 0 0)], σ := [.cells ((fl5 f).map .t), .row 1 (((upsP f.quiet pole0 (ks.take j)).map vb).map .t)] })
    ⟨_, (Sub.ghost 5 1 (by decide) rfl).trans (Sub.gc [0, 1] [8, 5, 6, 7, 1, 2] rfl rfl), rfl⟩ ?_
  rintro j s hj rfl
  unfold tK
  simp only [fl5, go_sem, Nat.reduceEqDiff, List.length_map]
  refine BrL.mk (fun h1 => ?_) (fun h1 => ?_)
  · have hj' : j < ks.length := by simp at h1; omega
    have hg : ks[j]? = some ks[j] := List.getElem?_eq_getElem hj'
    have htk : ks.take (j + 1) = ks.take j ++ [ks[j]] := by rw [List.take_add_one, hg]; rfl
    have hw : IntKind.i64.wrap ((j : Int) + 1) = ((j + 1 : Nat) : Int) := by rw [wrap_id (by omega) (by omega)]; omega
    have hlen : (upsP f.quiet pole0 (ks.take j)).length = j := by rw [upsP_len, List.length_take]; omega
    have hu := upsP_snoc f.quiet (ks.take j) pole0 ks[j]
    have hp := poleA_snoc f.quiet (ks.take j) pole0 ks[j]
    have hc := poleA_calm f.quiet (ks.take j) pole0 0 (by simp)
    have hd := poleA_down f.quiet (ks.take j) pole0 (fun _ => rfl)
    have hx3 : ks[j] < 3 := hk3 _ (List.getElem_mem hj')
    rw [← htk] at hu hp
    rw [List.length_take] at hc
    generalize ks[j] = x at *
    generalize upsP f.quiet pole0 (ks.take j) = us at *
    generalize poleA f.quiet pole0 (ks.take j) = p at *
    obtain ⟨up, calm⟩ := p
    simp only at hc hd
    have hwc : IntKind.i64.wrap (calm + 1) = calm + 1 := wrap_id (by omega) (by omega)
    have hj9 : j + 1 ≤ 2 ^ 63 - 1 ∧ (j + 1) * 1 ≤ 140737488355328 := by omega
    cases up
    · have hcalm := hd rfl
      subst hcalm
      cases h2 : ((x : Int) == 2)
      · have h2' : ¬ (x : Int) = 2 := by simpa using h2
        have hh : hourF f.quiet (false, 0) x = ((false, 0), false) := by simp [hourF, h2']
        simp only [h1, go_sem, Nat.reduceEqDiff, Nat.reduceAdd, Nat.reduceLT, Bool.not_false, undef, beq_self_eq_true, List.length_map, List.getElem?_map, hg, h2, hw, hlen, maxLen]
        refine ⟨hj9, hj', _, Sub.gc [0, 1] [8, 5, 6, 7, 1, 2] rfl rfl, ?_⟩
        rw [hp, hu, hh]
        refine St.gc_mk rfl ?_ rfl rfl
        simp only [σgc, AO.gc, List.map_cons, List.map_nil, List.getD_cons_zero, List.getD_cons_succ, List.map_append, List.map_map, gc_t, fl5]
        rfl
      · have h2' : (x : Int) = 2 := by simpa using h2
        have h3 : ((x : Int) == 0) = false := by rw [h2']; rfl
        have h4 : ((0 : Int) == f.quiet) = false := by rw [beq_eq_false_iff_ne]; omega
        have hh : hourF f.quiet (false, 0) x = ((true, 0), true) := by simp [hourF, h2']
        simp only [h1, go_sem, Nat.reduceEqDiff, Nat.reduceAdd, Nat.reduceLT, Nat.reduceLeDiff, Bool.not_false, beq_self_eq_true, List.length_map, List.getElem?_map, hg, h2, h3, h4, hw, hlen, maxLen]
        refine ⟨hj9, hj', _, Sub.gc [0, 1] [8, 5, 6, 7, 1, 2] rfl rfl, ?_⟩
        rw [hp, hu, hh]
        refine St.gc_mk rfl ?_ rfl rfl
        simp only [σgc, AO.gc, List.map_cons, List.map_nil, List.getD_cons_zero, List.getD_cons_succ, List.map_append, List.map_map, gc_t, fl5]
        rfl
    · cases h3 : ((x : Int) == 0)
      · have h3' : ¬ (x : Int) = 0 := by simpa using h3
        have h4 : ((0 : Int) == f.quiet) = false := by rw [beq_eq_false_iff_ne]; omega
        simp only [h1, go_sem, Nat.reduceEqDiff, Nat.reduceAdd, Nat.reduceLT, Nat.reduceLeDiff, Bool.not_true, undef, beq_self_eq_true, List.length_map, List.getElem?_map, hg, h3, h4, hw, hlen, maxLen]
        have hh : hourF f.quiet (true, calm) x = ((true, 0), true) := by
          have : x = 1 ∨ x = 2 := by omega
          rcases this with rfl | rfl <;> simp [hourF]
        refine ⟨hj9, hj', _, Sub.gc [0, 1] [8, 5, 6, 7, 1, 2] rfl rfl, ?_⟩
        rw [hp, hu, hh]
        refine St.gc_mk rfl ?_ rfl rfl
        simp only [σgc, AO.gc, List.map_cons, List.map_nil, List.getD_cons_zero, List.getD_cons_succ, List.map_append, List.map_map, gc_t, fl5]
        rfl
      · have h3' : (x : Int) = 0 := by simpa using h3
        cases h4 : (calm + 1 == f.quiet)
        · have h4' : ¬ calm + 1 = f.quiet := by simpa using h4
          have hh : hourF f.quiet (true, calm) x = ((true, calm + 1), true) := by simp [hourF, h3', h4']
          simp only [h1, go_sem, Nat.reduceEqDiff, Nat.reduceAdd, Nat.reduceLT, Nat.reduceLeDiff, Bool.not_true, undef, beq_self_eq_true, List.length_map, List.getElem?_map, hg, h3, h4, hw, hwc, hlen, maxLen]
          refine ⟨hj9, hj', _, Sub.gc [0, 1] [8, 5, 6, 7, 1, 2] rfl rfl, ?_⟩
          rw [hp, hu, hh]
          refine St.gc_mk rfl ?_ rfl rfl
          simp only [σgc, AO.gc, List.map_cons, List.map_nil, List.getD_cons_zero, List.getD_cons_succ, List.map_append, List.map_map, gc_t, fl5]
          rfl
        · have h4' : calm + 1 = f.quiet := by simpa using h4
          have hh : hourF f.quiet (true, calm) x = ((false, 0), true) := by simp [hourF, h3', h4']
          simp only [h1, go_sem, Nat.reduceEqDiff, Nat.reduceAdd, Nat.reduceLT, Nat.reduceLeDiff, Bool.not_true, undef, beq_self_eq_true, List.length_map, List.getElem?_map, hg, h3, h4, hw, hwc, hlen, maxLen]
          refine ⟨hj9, hj', _, Sub.gc [0, 1] [8, 5, 6, 7, 1, 2] rfl rfl, ?_⟩
          rw [hp, hu, hh]
          refine St.gc_mk rfl ?_ rfl rfl
          simp only [σgc, AO.gc, List.map_cons, List.map_nil, List.getD_cons_zero, List.getD_cons_succ, List.map_append, List.map_map, gc_t, fl5]
          rfl
  · have hjn : j = ks.length := by simp at h1; omega
    subst hjn
    simp only [h1, go_sem, Nat.reduceEqDiff]
    rw [List.take_length]
    refine finL_ret [] ⟨rfl, rfl, rfl, rfl, _, rfl, res_mk ?_⟩
    rw [show lk _ 4 = E.loc 1 ks.length from rfl, gc_loc (n := 10) (xs := (ups f ks).map vb) rfl rfl (by simp [upsP_len])]
end Go.Proofs.YtbhbbjngndmnmaaGreatDoor.F
