/- Proved here: laws that the statements need (WzC1b, WzL, WzM, WzC1q, WzN, WzO, WzR). No conditions but those that each law states. -/
import Derived.Test.YtnmmhkkmejbckaaGreatDoorFL
import Derived.Test.YtnmmhkkmejbckaaGreatDoorFP
import Derived.Test.YtnmmhkkmejbckaaGreatDoorProg
import Derived.Test.YtnmmhkkmejbckaaGreatDoorYC
import Derived.Test.YtnmmhkkmejbckaaGreatDoorYB

set_option linter.unusedSimpArgs false
set_option linter.unusedVariables false

/- Compiled code of functions, printed by program; each is checked to be the program's. No conditions. -/
namespace Go.Proofs.YtnmmhkkmejbckaaGreatDoor
open Go Go.Ab
/-- math/bits.OnesCount -/
def c64 : AC :=
 .seq (.reg [⟨(some 2), none, .mov (.lit (.int .i64 0))⟩])
 (.seq (.cond (.lit (.bool false)) (.seq (.reg [⟨(some 3), none, .mov (.tmp 0)⟩,
 ⟨(some 4), none, .conv .u32 (.tmp 3)⟩,
 ⟨(some 5), none, .call (.fn 85) [(.tmp 4)]⟩,
 ⟨(some 2), none, .mov (.tmp 5)⟩])
 (.ret))
 (.skip))
 (.seq (.reg [⟨(some 6), none, .mov (.tmp 0)⟩,
 ⟨(some 7), none, .call (.fn 86) [(.tmp 6)]⟩,
 ⟨(some 2), none, .mov (.tmp 7)⟩])
 (.ret)))
theorem k64 : FnC Tryz.prog 64 8 [] [] [.tmp 2] c64 1 := ⟨Tryz.f64, _, Tryz.func64, rfl, by decide, rfl, by decide, by kernel_rfl, by kernel_rfl⟩
/-- math/bits.TrailingZeros -/
def c65 : AC :=
 .seq (.reg [⟨(some 2), none, .mov (.lit (.int .i64 0))⟩])
 (.seq (.cond (.lit (.bool false)) (.seq (.reg [⟨(some 3), none, .mov (.tmp 0)⟩,
 ⟨(some 4), none, .conv .u32 (.tmp 3)⟩,
 ⟨(some 5), none, .call (.fn 87) [(.tmp 4)]⟩,
 ⟨(some 2), none, .mov (.tmp 5)⟩])
 (.ret))
 (.skip))
 (.seq (.reg [⟨(some 6), none, .mov (.tmp 0)⟩,
 ⟨(some 7), none, .call (.fn 88) [(.tmp 6)]⟩,
 ⟨(some 2), none, .mov (.tmp 7)⟩])
 (.ret)))
theorem k65 : FnC Tryz.prog 65 8 [] [] [.tmp 2] c65 1 := ⟨Tryz.f65, _, Tryz.func65, rfl, by decide, rfl, by decide, by kernel_rfl, by kernel_rfl⟩
/-- math/bits.OnesCount64 -/
def c86 : AC :=
 .seq (.reg [⟨(some 2), none, .mov (.lit (.int .i64 0))⟩])
 (.seq (.reg [⟨(some 3), none, .mov (.tmp 0)⟩,
 ⟨(some 4), none, .bin .shr (.tmp 3) (.lit (.int .u64 1))⟩,
 ⟨(some 5), none, .bin .and (.tmp 4) (.lit (.int .u64 6148914691236517205))⟩,
 ⟨(some 6), none, .mov (.tmp 0)⟩,
 ⟨(some 7), none, .bin .and (.tmp 6) (.lit (.int .u64 6148914691236517205))⟩,
 ⟨(some 8), none, .bin .add (.tmp 5) (.tmp 7)⟩,
 ⟨(some 0), none, .mov (.tmp 8)⟩])
 (.seq (.reg [⟨(some 9), none, .mov (.tmp 0)⟩,
 ⟨(some 10), none, .bin .shr (.tmp 9) (.lit (.int .u64 2))⟩,
 ⟨(some 11), none, .bin .and (.tmp 10) (.lit (.int .u64 3689348814741910323))⟩,
 ⟨(some 12), none, .mov (.tmp 0)⟩,
 ⟨(some 13), none, .bin .and (.tmp 12) (.lit (.int .u64 3689348814741910323))⟩,
 ⟨(some 14), none, .bin .add (.tmp 11) (.tmp 13)⟩,
 ⟨(some 0), none, .mov (.tmp 14)⟩])
 (.seq (.reg [⟨(some 15), none, .mov (.tmp 0)⟩,
 ⟨(some 16), none, .bin .shr (.tmp 15) (.lit (.int .u64 4))⟩,
 ⟨(some 17), none, .mov (.tmp 0)⟩,
 ⟨(some 18), none, .bin .add (.tmp 16) (.tmp 17)⟩,
 ⟨(some 19), none, .bin .and (.tmp 18) (.lit (.int .u64 1085102592571150095))⟩,
 ⟨(some 0), none, .mov (.tmp 19)⟩])
 (.seq (.reg [⟨(some 20), none, .mov (.tmp 0)⟩,
 ⟨(some 21), none, .mov (.tmp 0)⟩,
 ⟨(some 22), none, .bin .shr (.tmp 21) (.lit (.int .u64 8))⟩,
 ⟨(some 23), none, .bin .add (.tmp 20) (.tmp 22)⟩,
 ⟨(some 0), none, .mov (.tmp 23)⟩])
 (.seq (.reg [⟨(some 24), none, .mov (.tmp 0)⟩,
 ⟨(some 25), none, .mov (.tmp 0)⟩,
 ⟨(some 26), none, .bin .shr (.tmp 25) (.lit (.int .u64 16))⟩,
 ⟨(some 27), none, .bin .add (.tmp 24) (.tmp 26)⟩,
 ⟨(some 0), none, .mov (.tmp 27)⟩])
 (.seq (.reg [⟨(some 28), none, .mov (.tmp 0)⟩,
 ⟨(some 29), none, .mov (.tmp 0)⟩,
 ⟨(some 30), none, .bin .shr (.tmp 29) (.lit (.int .u64 32))⟩,
 ⟨(some 31), none, .bin .add (.tmp 28) (.tmp 30)⟩,
 ⟨(some 0), none, .mov (.tmp 31)⟩])
 (.seq (.reg [⟨(some 32), none, .mov (.tmp 0)⟩,
 ⟨(some 33), none, .conv .i64 (.tmp 32)⟩,
 ⟨(some 34), none, .bin .and (.tmp 33) (.lit (.int .i64 127))⟩,
 ⟨(some 2), none, .mov (.tmp 34)⟩])
 (.ret))))))))
theorem k86 : FnC Tryz.prog 86 35 [] [] [.tmp 2] c86 1 := ⟨Tryz.f86, _, Tryz.func86, rfl, by decide, rfl, by decide, by kernel_rfl, by kernel_rfl⟩
/-- math/bits.TrailingZeros64 -/
def c88 : AC :=
 .seq (.reg [⟨(some 2), none, .mov (.lit (.int .i64 0))⟩])
 (.seq (.seq (.reg [⟨(some 3), none, .mov (.tmp 0)⟩,
 ⟨(some 4), none, .bin .eql (.tmp 3) (.lit (.int .u64 0))⟩])
 (.cond (.tmp 4) (.seq (.reg [⟨(some 2), none, .mov (.lit (.int .i64 64))⟩])
 (.ret))
 (.skip)))
 (.seq (.reg [⟨(some 5), none, .mov (.tmp 0)⟩,
 ⟨(some 6), none, .mov (.tmp 0)⟩,
 ⟨(some 7), none, .un .neg (.tmp 6)⟩,
 ⟨(some 8), none, .bin .and (.tmp 5) (.tmp 7)⟩,
 ⟨(some 9), none, .bin .mul (.tmp 8) (.lit (.int .u64 285870213051353865))⟩,
 ⟨(some 10), none, .bin .shr (.tmp 9) (.lit (.int .u64 58))⟩,
 ⟨(some 11), none, .iaddrA 64 1 (.tr (.ptr (tabT tab64) 0)) (.tmp 10)⟩,
 ⟨(some 12), none, .load false 1 (.tmp 11)⟩,
 ⟨(some 13), none, .conv .i64 (.tmp 12)⟩,
 ⟨(some 2), none, .mov (.tmp 13)⟩])
 (.ret)))
theorem k88 : FnC Tryz.prog 88 14 [] [] [.tmp 2] c88 1 := ⟨Tryz.f88, _, Tryz.func88, rfl, by decide, rfl, by decide, by kernel_rfl, by kernel_rfl⟩
end Go.Proofs.YtnmmhkkmejbckaaGreatDoor

/- Bits; Count, Can and Where. -/
namespace Go.Proofs.YtnmmhkkmejbckaaGreatDoor
open Go Go.Ab

abbrev vu (n : Int) : T := .lit (.int .u64 n)
set_option maxRecDepth 8000 in
theorem ones64_ok (n : Nat) (hn : n < 64) : ACall Tryz.prog 86 [.t (vu n)] [] (ret (vi (size n))) := by
  refine ACall.walk k86 ?_
  unfold c86
  simp only [go_sem, Nat.reduceEqDiff, Int.reduceToNat, Int.reduceLT]
  refine finL_ret [] ⟨rfl, rfl, rfl, rfl, _, rfl, res_mk (congrArg (fun x => Out.ret (.t (vi x))) ?_)⟩
  revert n
  decide +kernel
theorem ones_ok (n : Nat) (hn : n < 64) : ACall Tryz.prog 64 [.t (vu n)] [] (ret (vi (size n))) := by
  have h := ones64_ok n hn
  refine ACall.walk k64 ?_
  unfold c64
  simp only [go_sem, Nat.reduceEqDiff]
  refine ACallL.quiet1 h rfl rfl rfl ?_
  simp only [go_sem, Nat.reduceEqDiff]
  exact finL_ret [] ⟨rfl, rfl, rfl, rfl, _, rfl, res_mk rfl⟩

/-! ### Count -/
def specCount (w : Wa) : Int × Int := if w.ok then ((waysN w.fits : Nat), 0) else (0, 1)
set_option maxRecDepth 8000 in
theorem Count_ok (w : Wa) (hL : Lens w) : ACall Tryz.prog 17 [.t (tWa w)] [] (res (oneE (specCount w).1 (specCount w).2)) := by
  refine ACall.walkD k17 ?_
  have ho := open_ok w true hL
  unfold c17
  unfold tWa at ho ⊢
  unfold wa2 at ho ⊢
  simp only [go_sem, Nat.reduceEqDiff, Nat.reduceAdd]
  cases hok : w.ok
  · rw [opnO_bad hok] at ho
    refine ACallL.fresh1 ho rfl ?_
    simp only [go_sem, Nat.reduceEqDiff]
    refine finDL_pan rfl rfl ((dfr_pan b52 rfl).mono ?_)
    rintro σ' rfl
    exact ⟨_, rfl, [], rfl, rfl, res_mk (by unfold specCount; rw [hok]; rfl)⟩
  rw [opnO_ok hok] at ho
  have hw := (w.ok_iff).1 hok
  obtain ⟨f1, f2⟩ := fits_small hw
  have hwy := ways_ok w.fits f1 f2
  refine ACallL.fresh1 ho rfl ?_
  simp only [tTab, go_sem, Nat.reduceEqDiff, Nat.reduceAdd]
  refine ACallL.fresh1 hwy rfl ?_
  simp only [go_sem, Nat.reduceEqDiff, undef]
  refine finDL_ret rfl rfl ((dfr_none b52 rfl).mono ?_)
  rintro σ' rfl
  exact ⟨_, rfl, [], rfl, rfl, res_mk (by unfold specCount; rw [hok]; rfl)⟩

/-! ### Can -/
def specCan (w : Wa) (i : Int) : Int × Int := if w.ok then (if w.isF i then (if waysN w.fits = 0 then (0, 10) else ((((whoseL w.fits).getD i.toNat 0 : Nat) : Int), 0)) else (0, 2)) else (0, 1)
set_option maxRecDepth 8000 in
theorem Can_ok (w : Wa) (i : Int) (hL : Lens w) : ACall Tryz.prog 19 [.t (tWa w), .t (vi i)] [] (res (oneE (specCan w i).1 (specCan w i).2)) := by
  refine ACall.walkD k19 ?_
  have hi := isFind_ok w i hL
  have ho := open_ok w (w.isF i) hL
  unfold c19
  unfold tWa at hi ho ⊢
  unfold wa2 at hi ho ⊢
  simp only [go_sem, Nat.reduceEqDiff, Nat.reduceAdd]
  refine ACallL.quiet1 hi rfl rfl rfl ?_
  simp only [go_sem, Nat.reduceEqDiff, Nat.reduceAdd]
  cases hok : w.ok
  · rw [opnO_bad hok] at ho
    refine ACallL.fresh1 ho rfl ?_
    simp only [go_sem, Nat.reduceEqDiff]
    refine finDL_pan rfl rfl ((dfr_pan b55 rfl).mono ?_)
    rintro σ' rfl
    exact ⟨_, rfl, [], rfl, rfl, res_mk (by unfold specCan; rw [hok]; rfl)⟩
  cases hf : w.isF i
  · rw [hf, opnO_rng hok] at ho
    refine ACallL.fresh1 ho rfl ?_
    simp only [go_sem, Nat.reduceEqDiff]
    refine finDL_pan rfl rfl ((dfr_pan b55 rfl).mono ?_)
    rintro σ' rfl
    exact ⟨_, rfl, [], rfl, rfl, res_mk (by unfold specCan; rw [hok, hf]; rfl)⟩
  rw [hf, opnO_ok hok] at ho
  have hw := (w.ok_iff).1 hok
  obtain ⟨n, rfl, hn⟩ := isF_nat hf
  have ht := told_ok w hw
  have hnf := hw.nf
  refine ACallL.fresh1 ho rfl ?_
  unfold tTab at ht ⊢
  simp only [go_sem, Nat.reduceEqDiff, Nat.reduceAdd]
  by_cases hz : waysN w.fits = 0
  · have he : tolO w = .pan (stp1 10) := by unfold tolO; rw [if_pos hz]
    rw [he] at ht
    refine ACallL.fresh1 ht rfl ?_
    simp only [go_sem, Nat.reduceEqDiff]
    refine finDL_pan rfl rfl ((dfr_pan b55 rfl).mono ?_)
    rintro σ' rfl
    exact ⟨_, rfl, [], rfl, rfl, res_mk (by unfold specCan; rw [hok, hf, if_pos rfl, if_pos rfl, if_pos hz]; rfl)⟩
  · have he : tolO w = .ret (.t (.agg (w4 (whoseL w.fits)))) := by unfold tolO; rw [if_neg hz]
    have hs : specCan w n = ((((whoseL w.fits).getD n 0 : Nat) : Int), 0) := by unfold specCan; rw [hok, hf, if_pos rfl, if_pos rfl, if_neg hz, Int.toNat_natCast]
    have hw4 := whose_small w.fits hz
    rw [he] at ht
    generalize whoseL w.fits = X at *
    obtain ⟨x0, x1, x2, x3, rfl⟩ := len4 hw4.1
    refine ACallL.fresh1 ht rfl ?_
    have h4 : n = 0 ∨ n = 1 ∨ n = 2 ∨ n = 3 := by omega
    rcases h4 with rfl | rfl | rfl | rfl
    all_goals
      simp only [w4, go_sem, Nat.reduceEqDiff, Nat.reduceAdd, Nat.reduceMul, Nat.reduceLeDiff, Int.reduceToNat, Int.reduceLT, Int.reduceLE, undef]
      refine finDL_ret rfl rfl ((dfr_none b55 rfl).mono ?_)
      rintro σ' rfl
      exact ⟨_, rfl, [], rfl, rfl, res_mk (by rw [hs]; rfl)⟩

/-! ### Where -/
/-- Whose finds can be, without one owner. -/
def lessL (fits : List Nat) (o : Nat) : List Nat := fits.map fun x => ndiff x (2 ^ o)
set_option maxRecDepth 8000 in
set_option maxHeartbeats 2000000 in
theorem without_ok (f : List Nat) (hf4 : f.length ≤ 4) (hf : ∀ x ∈ f, x < 64) (o : Nat) (ho : o ≤ 5) : ACall Tryz.prog 61 [.t (.slice 1 (tNs f)), .t (vi o)] [] (res (.ret (.t (.slice 1 (tNs (lessL f o)))))) := by
  refine ACall.walk k61 ?_
  unfold c61
  have hlt : (tNs f).length = f.length := by unfold tNs; simp
  have hshl : IntKind.i64.wrap (1 * 2 ^ (min o 64)) = ((2 ^ o : Nat) : Int) := shl_one (by omega)
  have ho0 : ((o : Int) < 0) = False := eq_false (by omega)
  have hll : (lessL f o).length = f.length := by unfold lessL; simp
  have n1 : ((f.length : Int) ≤ 2 ^ 40) = True := eq_true (by omega)
  have n2 : ((f.length : Int) * 8 ≤ 281474976710656) = True := eq_true (by omega)
  have hdr : ∀ x : E, List.drop f.length (List.replicate f.length x) = [] := fun x => by simp
  simp only [go_sem, Nat.reduceEqDiff, hlt, n1, n2, Int.le_refl, and_self, List.length_replicate, List.length_map, Nat.le_refl, hdr, List.append_nil]
  have hmixl : ∀ j, j ≤ f.length → ((lessL f o).take j ++ f.drop j).length = f.length := fun j hj => by rw [List.length_append, List.length_take, List.length_drop, hll]; omega
  refine awpL_loopK f.length (fun j s => s = { env := [(15, .t (vi j)), (1, .t (vi o)), (5, .loc 0 f.length), (14, .t (vi f.length))], σ := [.row 1 ((tNs ((lessL f o).take j ++ f.drop j)).map .t)] })
    ⟨_, Sub.gc [0] [15, 1, 5, 14] rfl rfl, ?_⟩ ?_
  · refine St.gc_mk rfl ?_ rfl rfl
    unfold σgc
    simp only [List.map_cons, List.map_nil, List.getD_cons_zero, AO.gc, gc_tNs, List.take_zero, List.drop_zero, List.nil_append]
  rintro j s hj rfl
  have hlm := hmixl j hj
  have hlm2 : (tNs ((lessL f o).take j ++ f.drop j)).length = f.length := by unfold tNs; rw [List.length_map, hlm]
  cases g : decide ((j : Int) < (f.length : Int))
  · have he : j = f.length := by have := of_decide_eq_false g; omega
    subst he
    have hfin : (lessL f o).take f.length ++ f.drop f.length = lessL f o := by rw [List.drop_length, List.append_nil, List.take_of_length_le (by omega)]
    simp only [go_sem, Nat.reduceEqDiff, g, hfin]
    exact finL_ret [] ⟨rfl, rfl, rfl, rfl, _, rfl, res_mk (congrArg Out.ret (gc_loc rfl rfl (by unfold tNs; rw [List.length_map, hll])))⟩
  have hlt2 : j < f.length := by have := of_decide_eq_true g; omega
  have hj0 : ((j : Int) < 0) = False := eq_false (by omega)
  have hjl : ((j : Int) < (f.length : Int)) = True := eq_true (by omega)
  have w1 : IntKind.i64.wrap ((j : Int) + 1) = ((j + 1 : Nat) : Int) := by rw [wrap_id (by omega) (by omega)]; omega
  have hfj : f[j]? = some f[j] := List.getElem?_eq_getElem hlt2
  have hsm := hf _ (List.getElem_mem hlt2)
  have hlj : (lessL f o)[j]? = some (ndiff f[j] (2 ^ o)) := by unfold lessL; rw [List.getElem?_map, hfj]; rfl
  have hget : (tNs ((lessL f o).take j ++ f.drop j))[j]? = some (vi (f[j] : Nat)) := by
    unfold tNs
    rw [List.getElem?_map, List.getElem?_append_right (by rw [List.length_take]; omega), List.length_take, hll, Nat.min_eq_left hj, Nat.sub_self, List.getElem?_drop, Nat.add_zero, hfj]; rfl
  have hmix : ((lessL f o).take j ++ f.drop j).set j (ndiff f[j] (2 ^ o)) = (lessL f o).take (j + 1) ++ f.drop (j + 1) := by
    have hl : ((lessL f o).take j).length = j := by rw [List.length_take]; omega
    rw [List.set_append_right _ _ (by omega), hl, Nat.sub_self, List.drop_eq_getElem_cons hlt2, List.set_cons_zero, List.take_add_one, hlj, List.append_assoc]
    rfl
  have hand : bits .andNot .i64 (f[j] : Int) ((2 ^ o : Nat) : Int) = ((ndiff f[j] (2 ^ o) : Nat) : Int) := bits_andNot (by omega) (by
    have : 2 ^ o ≤ 2 ^ 5 := Nat.pow_le_pow_right (by omega) ho
    omega)
  have hset : ((tNs ((lessL f o).take j ++ f.drop j)).map E.t).set j (E.t (.lit (.int .i64 (ndiff f[j] (2 ^ o) : Nat)))) = (tNs ((lessL f o).take (j + 1) ++ f.drop (j + 1))).map E.t := by
    rw [← hmix]; unfold tNs; rw [List.map_set, List.map_set]
  generalize f[j] = x at *
  simp only [go_sem, Nat.reduceEqDiff, Bool.not_false, decide_true, undef, hlm2, hget, hjl, hshl, ho0, hand, w1, List.length_map, List.getElem?_map, Option.map_some, hset]
  refine ⟨hlt2, _, Sub.gc [0] [15, 1, 5, 14] rfl rfl, St.gc_mk rfl ?_ rfl rfl⟩
  unfold σgc
  simp only [List.map_cons, List.map_nil, List.getD_cons_zero, AO.gc, gc_tNs]

def whereP (w : Wa) (o : Nat) (p : Nat) : Bool := ((whoseL w.fits).getD p 0).testBit o
def whrE (a : Int) (b : Bool) (e : Int) : Out := .ret (.tup [.t (vi a), .t (vb b), .t (vi e)])
def specWhere (w : Wa) (i : Int) : Int × Bool × Int := if w.ok then (if w.isO i then (if waysN w.fits = 0 then (0, false, 10) else (((maskW (whereP w i.toNat) 4 : Nat) : Int), decide (0 < waysN (lessL w.fits i.toNat)), 0)) else (0, false, 2)) else (0, false, 1)
theorem less_small {f : List Nat} (h1 : f.length ≤ 4) (h2 : ∀ x ∈ f, x < 64) (o : Nat) : (lessL f o).length ≤ 4 ∧ ∀ x ∈ lessL f o, x < 64 := by
  unfold lessL
  refine ⟨by rw [List.length_map]; exact h1, fun x hx => ?_⟩
  obtain ⟨y, hy, rfl⟩ := List.mem_map.1 hx
  have := h2 y hy
  have := ndiff_le y (2 ^ o)
  omega
set_option maxRecDepth 8000 in
set_option maxHeartbeats 4000000 in
theorem Where_ok (w : Wa) (i : Int) (hL : Lens w) : ACall Tryz.prog 21 [.t (tWa w), .t (vi i)] [] (res (whrE (specWhere w i).1 (specWhere w i).2.1 (specWhere w i).2.2)) := by
  refine ACall.walkD k21 ?_
  have hi := isOwner_ok w i hL
  have ho := open_ok w (w.isO i) hL
  unfold c21
  unfold tWa at hi ho ⊢
  unfold wa2 at hi ho ⊢
  simp only [go_sem, Nat.reduceEqDiff, Nat.reduceAdd]
  refine ACallL.quiet1 hi rfl rfl rfl ?_
  simp only [go_sem, Nat.reduceEqDiff, Nat.reduceAdd]
  cases hok : w.ok
  · rw [opnO_bad hok] at ho
    refine ACallL.fresh1 ho rfl ?_
    simp only [go_sem, Nat.reduceEqDiff]
    refine finDL_pan rfl rfl ((dfr_pan b59 rfl).mono ?_)
    rintro σ' rfl
    exact ⟨_, rfl, [], rfl, rfl, res_mk (by unfold specWhere; rw [hok]; rfl)⟩
  cases hf : w.isO i
  · rw [hf, opnO_rng hok] at ho
    refine ACallL.fresh1 ho rfl ?_
    simp only [go_sem, Nat.reduceEqDiff]
    refine finDL_pan rfl rfl ((dfr_pan b59 rfl).mono ?_)
    rintro σ' rfl
    exact ⟨_, rfl, [], rfl, rfl, res_mk (by unfold specWhere; rw [hok, hf]; rfl)⟩
  rw [hf, opnO_ok hok] at ho
  have hw := (w.ok_iff).1 hok
  obtain ⟨n, rfl, hn⟩ := isO_nat hf
  have ht := told_ok w hw
  have hno := hw.no
  obtain ⟨f1, f2⟩ := fits_small hw
  obtain ⟨e1, e2⟩ := less_small f1 f2 n
  have hwo := without_ok w.fits f1 f2 n (by omega)
  have hwy := ways_ok (lessL w.fits n) e1 e2
  refine ACallL.fresh1 ho rfl ?_
  unfold tTab at ht ⊢
  simp only [go_sem, Nat.reduceEqDiff, Nat.reduceAdd]
  by_cases hz : waysN w.fits = 0
  · have he : tolO w = .pan (stp1 10) := by unfold tolO; rw [if_pos hz]
    rw [he] at ht
    refine ACallL.fresh1 ht rfl ?_
    simp only [go_sem, Nat.reduceEqDiff]
    refine finDL_pan rfl rfl ((dfr_pan b59 rfl).mono ?_)
    rintro σ' rfl
    exact ⟨_, rfl, [], rfl, rfl, res_mk (by unfold specWhere; rw [hok, hf, if_pos rfl, if_pos rfl, if_pos hz]; rfl)⟩
  have he : tolO w = .ret (.t (.agg (w4 (whoseL w.fits)))) := by unfold tolO; rw [if_neg hz]
  have hs : specWhere w n = (((maskW (whereP w n) 4 : Nat) : Int), decide (0 < waysN (lessL w.fits n)), 0) := by unfold specWhere; rw [hok, hf, if_pos rfl, if_pos rfl, if_neg hz, Int.toNat_natCast]
  have hw4 := whose_small w.fits hz
  rw [he] at ht
  have hp : ∀ p, whereP w n p = ((whoseL w.fits).getD p 0).testBit n := fun _ => rfl
  have hml : ∀ j, j ≤ 4 → maskW (whereP w n) j < 64 := fun j hj => by
    have := maskW_lt (whereP w n) j
    have h2 : 2 ^ j ≤ 2 ^ 4 := Nat.pow_le_pow_right (by omega) hj
    omega
  have hms : ∀ j, maskW (whereP w n) (j + 1) = maskW (whereP w n) j ||| if whereP w n j then 2 ^ j else 0 := fun _ => rfl
  generalize whereP w n = p at *
  generalize whoseL w.fits = X at *
  obtain ⟨x0, x1, x2, x3, rfl⟩ := len4 hw4.1
  have hx := hw4.2
  simp only [List.mem_cons, List.not_mem_nil, or_false, forall_eq_or_imp, forall_eq] at hx
  have hb := fun (x : Nat) (h : x < 64) => bit_eq (a := x) (i := n) (by omega)
  have hn0 : ((n : Int) < 0) = False := eq_false (by omega)
  refine ACallL.fresh1 ht rfl ?_
  simp only [w4, go_sem]
  refine awpL_loopK 4 (fun j s => s = { env := [(19, .t (vi j)), (1, .t (vi n)), (4, .t (vi 0)), (5, .t (vb false)), (6, .ptr 0 0), (7, .t (tTab w)), (8, .t (vi (maskW p j : Nat))), (18, .t (.agg [vi x0, vi x1, vi x2, vi x3]))], σ := [.cells [.t (vi 0)]], df := [.call 59 [.ptr 0 0]] })
    ⟨_, Sub.gc [1] [19, 1, 4, 5, 6, 7, 8, 18] rfl rfl, St.gc_mk rfl rfl rfl rfl⟩ ?_
  rintro j s hj rfl
  have h5 : j = 0 ∨ j = 1 ∨ j = 2 ∨ j = 3 ∨ j = 4 := by omega
  rcases h5 with rfl | rfl | rfl | rfl | rfl
  · have hbj := hb x0 (by omega)
    have hpj := hp 0
    have hm := hms 0
    have hml' := hml 0 (by omega)
    have hun := union_ok (maskW p 0) 1 (by omega) (by omega)
    have hshl : IntKind.i64.wrap (1 * 2 ^ (min 0 64)) = 1 := rfl
    rw [hm]
    simp only [List.getD_cons_zero] at hpj
    rw [hpj]
    generalize maskW p 0 = S at *
    cases hbb : x0.testBit n
    · rw [hbb] at hbj
      simp only [tTab, go_sem, Nat.reduceEqDiff, Nat.reduceAdd, Nat.reduceMul, Nat.reduceLT, Nat.reduceLeDiff, Int.reduceLT, Int.reduceLE, Int.reduceAdd, decide_true, hn0, IntKind.bits, hbj]
      refine ⟨_, Sub.gc [0] [19, 1, 4, 5, 6, 7, 8, 18] rfl rfl, ?_⟩
      rw [Nat.or_zero]
      exact St.gc_mk rfl rfl rfl rfl
    · rw [hbb] at hbj
      simp only [tTab, go_sem, Nat.reduceEqDiff, Nat.reduceAdd, Nat.reduceMul, Nat.reduceLT, Nat.reduceLeDiff, Int.reduceLT, Int.reduceLE, decide_true, hn0, IntKind.bits, hbj]
      refine ACallL.quiet1 hun rfl rfl rfl ?_
      simp only [tTab, go_sem, Nat.reduceEqDiff, Nat.reduceLT, Int.reduceAdd]
      exact ⟨_, Sub.gc [0] [19, 1, 4, 5, 6, 7, 8, 18] rfl rfl, St.gc_mk rfl rfl rfl rfl⟩
  · have hbj := hb x1 (by omega)
    have hpj := hp 1
    have hm := hms 1
    have hml' := hml 1 (by omega)
    have hun := union_ok (maskW p 1) 2 (by omega) (by omega)
    have hshl : IntKind.i64.wrap (1 * 2 ^ (min 1 64)) = 2 := rfl
    rw [hm]
    simp only [List.getD_cons_zero, List.getD_cons_succ] at hpj
    rw [hpj]
    generalize maskW p 1 = S at *
    cases hbb : x1.testBit n
    · rw [hbb] at hbj
      simp only [tTab, go_sem, Nat.reduceEqDiff, Nat.reduceAdd, Nat.reduceMul, Nat.reduceLT, Nat.reduceLeDiff, Int.reduceToNat, Int.reduceLT, Int.reduceLE, Int.reduceAdd, decide_true, hn0, IntKind.bits, hbj]
      refine ⟨_, Sub.gc [0] [19, 1, 4, 5, 6, 7, 8, 18] rfl rfl, ?_⟩
      rw [Nat.or_zero]
      exact St.gc_mk rfl rfl rfl rfl
    · rw [hbb] at hbj
      simp only [tTab, go_sem, Nat.reduceEqDiff, Nat.reduceAdd, Nat.reduceMul, Nat.reduceLT, Nat.reduceLeDiff, Int.reduceToNat, Int.reduceLT, Int.reduceLE, decide_true, hn0, IntKind.bits, hbj]
      refine ACallL.quiet1 hun rfl rfl rfl ?_
      simp only [tTab, go_sem, Nat.reduceEqDiff, Nat.reduceAdd, Nat.reduceLT, Int.reduceAdd]
      exact ⟨_, Sub.gc [0] [19, 1, 4, 5, 6, 7, 8, 18] rfl rfl, St.gc_mk rfl rfl rfl rfl⟩
  · have hbj := hb x2 (by omega)
    have hpj := hp 2
    have hm := hms 2
    have hml' := hml 2 (by omega)
    have hun := union_ok (maskW p 2) 4 (by omega) (by omega)
    have hshl : IntKind.i64.wrap (1 * 2 ^ (min 2 64)) = 4 := rfl
    rw [hm]
    simp only [List.getD_cons_zero, List.getD_cons_succ] at hpj
    rw [hpj]
    generalize maskW p 2 = S at *
    cases hbb : x2.testBit n
    · rw [hbb] at hbj
      simp only [tTab, go_sem, Nat.reduceEqDiff, Nat.reduceAdd, Nat.reduceMul, Nat.reduceLT, Nat.reduceLeDiff, Int.reduceToNat, Int.reduceLT, Int.reduceLE, Int.reduceAdd, decide_true, hn0, IntKind.bits, hbj]
      refine ⟨_, Sub.gc [0] [19, 1, 4, 5, 6, 7, 8, 18] rfl rfl, ?_⟩
      rw [Nat.or_zero]
      exact St.gc_mk rfl rfl rfl rfl
    · rw [hbb] at hbj
      simp only [tTab, go_sem, Nat.reduceEqDiff, Nat.reduceAdd, Nat.reduceMul, Nat.reduceLT, Nat.reduceLeDiff, Int.reduceToNat, Int.reduceLT, Int.reduceLE, decide_true, hn0, IntKind.bits, hbj]
      refine ACallL.quiet1 hun rfl rfl rfl ?_
      simp only [tTab, go_sem, Nat.reduceEqDiff, Nat.reduceAdd, Nat.reduceLT, Int.reduceAdd]
      exact ⟨_, Sub.gc [0] [19, 1, 4, 5, 6, 7, 8, 18] rfl rfl, St.gc_mk rfl rfl rfl rfl⟩
  · have hbj := hb x3 (by omega)
    have hpj := hp 3
    have hm := hms 3
    have hml' := hml 3 (by omega)
    have hun := union_ok (maskW p 3) 8 (by omega) (by omega)
    have hshl : IntKind.i64.wrap (1 * 2 ^ (min 3 64)) = 8 := rfl
    rw [hm]
    simp only [List.getD_cons_zero, List.getD_cons_succ] at hpj
    rw [hpj]
    generalize maskW p 3 = S at *
    cases hbb : x3.testBit n
    · rw [hbb] at hbj
      simp only [tTab, go_sem, Nat.reduceEqDiff, Nat.reduceAdd, Nat.reduceMul, Nat.reduceLT, Int.reduceToNat, Int.reduceLT, Int.reduceLE, Int.reduceAdd, decide_true, hn0, IntKind.bits, hbj]
      refine ⟨_, Sub.gc [0] [19, 1, 4, 5, 6, 7, 8, 18] rfl rfl, ?_⟩
      rw [Nat.or_zero]
      exact St.gc_mk rfl rfl rfl rfl
    · rw [hbb] at hbj
      simp only [tTab, go_sem, Nat.reduceEqDiff, Nat.reduceAdd, Nat.reduceMul, Nat.reduceLT, Int.reduceToNat, Int.reduceLT, Int.reduceLE, decide_true, hn0, IntKind.bits, hbj]
      refine ACallL.quiet1 hun rfl rfl rfl ?_
      simp only [tTab, go_sem, Nat.reduceEqDiff, Nat.reduceAdd, Nat.reduceLT, Int.reduceAdd]
      exact ⟨_, Sub.gc [0] [19, 1, 4, 5, 6, 7, 8, 18] rfl rfl, St.gc_mk rfl rfl rfl rfl⟩
  · have hpos : decide (((waysN (lessL w.fits n) : Nat) : Int) > 0) = decide (0 < waysN (lessL w.fits n)) := decide_eq_decide.2 (by omega)
    simp only [tTab, go_sem, Nat.reduceEqDiff, Nat.reduceAdd, Int.reduceLT, decide_false]
    refine ACallL.fresh1 hwo rfl ?_
    simp only [go_sem, Nat.reduceEqDiff]
    refine ACallL.fresh1 hwy rfl ?_
    simp only [go_sem, Nat.reduceEqDiff, undef, hpos]
    refine finDL_ret rfl rfl ((dfr_none b59 rfl).mono ?_)
    rintro σ' rfl
    exact ⟨_, rfl, [], rfl, rfl, res_mk (by rw [hs]; rfl)⟩
end Go.Proofs.YtnmmhkkmejbckaaGreatDoor

/- Whose a find surely is. -/
namespace Go.Proofs.YtnmmhkkmejbckaaGreatDoor
open Go Go.Ab

theorem dec7 {p : Nat → Prop} [DecidablePred p] {n : Nat} (h : ((List.range n).all fun n => decide (p n)) = true) (k : Nat) (hk : k < n) : p k := by
  have := List.all_eq_true.1 h k (List.mem_range.2 hk)
  exact of_decide_eq_true this
def c88g (m : Int) (tb : T) : AC :=
 .seq (.reg [⟨(some 2), none, .mov (.lit (.int .i64 0))⟩])
 (.seq (.seq (.reg [⟨(some 3), none, .mov (.tmp 0)⟩,
 ⟨(some 4), none, .bin .eql (.tmp 3) (.lit (.int .u64 0))⟩])
 (.cond (.tmp 4) (.seq (.reg [⟨(some 2), none, .mov (.lit (.int .i64 64))⟩])
 (.ret))
 (.skip)))
 (.seq (.reg [⟨(some 5), none, .mov (.tmp 0)⟩,
 ⟨(some 6), none, .mov (.tmp 0)⟩,
 ⟨(some 7), none, .un .neg (.tmp 6)⟩,
 ⟨(some 8), none, .bin .and (.tmp 5) (.tmp 7)⟩,
 ⟨(some 9), none, .bin .mul (.tmp 8) (.lit (.int .u64 m))⟩,
 ⟨(some 10), none, .bin .shr (.tmp 9) (.lit (.int .u64 58))⟩,
 ⟨(some 11), none, .iaddrA 64 1 (.tr (.ptr tb 0)) (.tmp 10)⟩,
 ⟨(some 12), none, .load false 1 (.tmp 11)⟩,
 ⟨(some 13), none, .conv .i64 (.tmp 12)⟩,
 ⟨(some 2), none, .mov (.tmp 13)⟩])
 (.ret)))
theorem c88_g : c88 = c88g 285870213051353865 (tabT tab64) := rfl
theorem tz_gen (m : Int) (cs : List T) (x : Int) (k j : Nat) (n2 : (x == 0) = false) (hj : j < 64) (hcs : cs[j]? = some (.lit (.int .u8 k))) (hk : k < 256)
    (d1 : (IntKind.u64.wrap (bits .and .u64 x (IntKind.u64.wrap (0 - x)) * m)).fdiv (2 ^ min 58 64) = (j : Int)) :
    @awpL { P := Tryz.prog, nb := 0, pn := [] } ⟨c88g m (.agg cs)⟩ ⟨fun e s => @finL 0 0 ⟨[.tmp 2]⟩ ⟨ret (vi k)⟩ e s⟩ { env := argEnv 0 [.t (.lit (.int .u64 x))], σ := [], df := [], k := 0 } := by
  unfold c88g
  have hw : IntKind.i64.wrap (k : Int) = k := wrap_id (by omega) (by omega)
  simp only [go_sem, Nat.reduceEqDiff, Nat.reduceAdd, Nat.reduceSub, Nat.reduceMul, Nat.reduceLT, Nat.reduceLeDiff, Nat.reduceMod, Nat.reduceDiv, Int.reduceToNat, Int.reduceLT, Int.reduceLE, Bool.not_true, Bool.not_false, reduceIte, Int.reduceEq, Int.reduceBEq, Int.reduceBNe, Int.reduceGT, Int.reduceGE, Int.reduceNeg, Int.reduceAdd, Int.reduceSub, Nat.reduceBEq, decide_true, decide_false, undef, beq_self_eq_true, bne_self_eq_false, Bool.and_true, Bool.true_and, Bool.and_false, Bool.false_and, Bool.or_true, Bool.true_or, Bool.or_false, Bool.false_or, n2, d1, Nat.mul_one, hcs, hw]
  refine ⟨by omega, ?_⟩
  exact finL_ret [] ⟨rfl, rfl, rfl, rfl, _, rfl, res_mk rfl⟩
def dB (k : Nat) : Nat := (2 ^ k * 285870213051353865 % 18446744073709551616) / 288230376151711744
theorem dB_ok : ∀ k : Nat, k < 8 → (IntKind.u64.wrap (bits .and .u64 ((2 ^ k : Nat) : Int) (IntKind.u64.wrap (0 - ((2 ^ k : Nat) : Int))) * 285870213051353865)).fdiv (2 ^ min 58 64) = (dB k : Int) := dec7 (by decide +kernel)
theorem tab64_at : ∀ k : Nat, k < 8 → dB k < 64 ∧ tab64[dB k]? = some k := dec7 (by decide +kernel)
theorem tz64_ok (k : Nat) (hk : k < 8) : ACall Tryz.prog 65 [.t (vu (2 ^ k : Nat))] [] (ret (vi k)) := by
  have h81 : ACall Tryz.prog 88 [.t (vu (2 ^ k : Nat))] [] (ret (vi k)) := by
    obtain ⟨h1, h2⟩ := tab64_at k hk
    refine ACall.walk k88 ?_
    rw [c88_g]
    exact tz_gen _ _ _ k (dB k) (by rw [beq_eq_false_iff_ne]; have := Nat.two_pow_pos k; omega) h1 (by rw [List.getElem?_map, h2]; rfl) (by omega) (dB_ok k hk)
  generalize ((2 ^ k : Nat) : Int) = x at *
  refine ACall.walk k65 ?_
  unfold c65
  simp only [go_sem, Nat.reduceEqDiff, Nat.reduceAdd, Nat.reduceSub, Nat.reduceMul, Nat.reduceLT, Nat.reduceLeDiff, Nat.reduceMod, Nat.reduceDiv, Int.reduceToNat, Int.reduceLT, Int.reduceLE, Bool.not_true, Bool.not_false, reduceIte, Int.reduceEq, Int.reduceBEq, Int.reduceBNe, Int.reduceGT, Int.reduceGE, Int.reduceNeg, Int.reduceAdd, Int.reduceSub, Nat.reduceBEq, decide_true, decide_false, undef, beq_self_eq_true, bne_self_eq_false, Bool.and_true, Bool.true_and, Bool.and_false, Bool.false_and, Bool.or_true, Bool.true_or, Bool.or_false, Bool.false_or]
  refine ACallL.quiet1 h81 rfl rfl rfl ?_
  simp only [go_sem, Nat.reduceEqDiff, Nat.reduceAdd, Nat.reduceSub, Nat.reduceMul, Nat.reduceLT, Nat.reduceLeDiff, Nat.reduceMod, Nat.reduceDiv, Int.reduceToNat, Int.reduceLT, Int.reduceLE, Bool.not_true, Bool.not_false, reduceIte, Int.reduceEq, Int.reduceBEq, Int.reduceBNe, Int.reduceGT, Int.reduceGE, Int.reduceNeg, Int.reduceAdd, Int.reduceSub, Nat.reduceBEq, decide_true, decide_false, undef, beq_self_eq_true, bne_self_eq_false, Bool.and_true, Bool.true_and, Bool.and_false, Bool.false_and, Bool.or_true, Bool.true_or, Bool.or_false, Bool.false_or]
  exact finL_ret [] ⟨rfl, rfl, rfl, rfl, _, rfl, res_mk rfl⟩
/-- Of a set with one owner: who it is; else -1. -/
def soleI (x : Nat) : Int := if size x = 1 then (x.log2 : Nat) else -1
theorem size_one : ∀ x : Nat, x < 64 → size x = 1 → x = 2 ^ x.log2 ∧ x.log2 < 6 := by decide +kernel
end Go.Proofs.YtnmmhkkmejbckaaGreatDoor

/- Compiled code of functions, printed by program; each is checked to be the program's. No conditions. -/
namespace Go.Proofs.YtnmmhkkmejbckaaGreatDoor
open Go Go.Ab
/-- dipworks/watch.Stopped -/
def c11 : AC :=
 .seq (.reg [⟨(some 3), none, .box (.tmp 0)⟩,
 ⟨(some 6), none, .mov (.lit (.slice none 0 0))⟩,
 ⟨(some 7), none, .alloc [(.int .i64 0)]⟩])
 (.seq (.reg [⟨(some 13), none, .mkfn (.func 47) [] [(.tmp 7)]⟩,
 ⟨none, none, .deferF (.tmp 13) []⟩])
 (.seq (.draw (.step ⟨(some 14), none, .load true 2 (.tmp 3)⟩ (
 .step ⟨(some 15), none, .load true 2 (.tmp 3)⟩ (
 .step ⟨(some 16), none, .mov (.tmp 1)⟩ (
 .ev ⟨(some 17), none, .call (.fn 43) [(.tmp 15), (.tmp 16)]⟩ [⟨(some 14), none, .load true 2 (.tmp 3)⟩] (
 .step ⟨(some 18), none, .mov (.tmp 17)⟩ (
 .step ⟨(some 19), (some (18, true)), .load true 2 (.tmp 3)⟩ (
 .step ⟨(some 20), (some (18, true)), .mov (.tmp 2)⟩ (
 .ev ⟨(some 21), (some (18, true)), .call (.fn 32) [(.tmp 19), (.tmp 20)]⟩ [⟨(some 15), none, .load true 2 (.tmp 3)⟩, ⟨(some 14), none, .load true 2 (.tmp 3)⟩] (
 .step ⟨(some 22), none, .pick (.tmp 18) (.tmp 21) (.lit (.bool false))⟩ (
 .ev ⟨(some 23), none, .call (.fn 31) [(.tmp 14), (.tmp 22)]⟩ [⟨(some 19), (some (18, true)), .load true 2 (.tmp 3)⟩, ⟨(some 15), none, .load true 2 (.tmp 3)⟩] (
 .step ⟨(some 8), none, .mov (.tmp 23)⟩ (
 .done))
 (.stop)))
 (.stop)))))
 (.stop))))))
 (.seq (.reg [⟨(some 24), none, .mov (.tmp 8)⟩,
 ⟨(some 25), none, .nilck (.tmp 24)⟩,
 ⟨(some 26), none, .faddr 0 (.tmp 25)⟩,
 ⟨(some 27), none, .faddr 1 (.tmp 26)⟩,
 ⟨(some 28), none, .load false 1 (.tmp 27)⟩,
 ⟨(some 29), none, .mov (.tmp 1)⟩,
 ⟨(some 30), none, .iaddr 5 (.tmp 28) (.tmp 29)⟩,
 ⟨(some 31), none, .load true 5 (.tmp 30)⟩,
 ⟨(some 9), none, .alloc [(.int .i64 0), (.int .i64 0), (.int .i64 0), (.int .i64 0), (.bool false)]⟩,
 ⟨none, none, .store 5 (.tmp 9) (.tmp 31)⟩])
 (.seq (.reg [⟨(some 32), none, .faddr 4 (.tmp 9)⟩,
 ⟨(some 33), none, .load false 1 (.tmp 32)⟩,
 ⟨(some 34), none, .call (.fn 34) [(.tmp 33), (.lit (.int .i64 11))]⟩])
 (.seq (.reg [⟨(some 10), none, .alloc [(.slice none 0 0)]⟩])
 (.seq (.seq (.draw (.step ⟨(some 35), none, .load true 5 (.tmp 9)⟩ (
 .step ⟨(some 37), none, .mov (.tmp 8)⟩ (
 .step ⟨(some 38), none, .nilck (.tmp 37)⟩ (
 .step ⟨(some 39), none, .faddr 0 (.tmp 38)⟩ (
 .step ⟨(some 40), none, .faddr 0 (.tmp 39)⟩ (
 .step ⟨(some 41), none, .load false 1 (.tmp 40)⟩ (
 .step ⟨(some 42), none, .mov (.tmp 2)⟩ (
 .step ⟨(some 43), none, .iaddr 4 (.tmp 41) (.tmp 42)⟩ (
 .step ⟨(some 44), none, .load true 4 (.tmp 43)⟩ (
 .step ⟨(some 45), none, .build [(.int .i64 0), (.int .i64 0), (.int .i64 0), (.int .i64 0)] [(0, 4, (.tmp 44))]⟩ (
 .ev ⟨(some 36), none, .call (.fn 48) [(.tmp 35)]⟩ [⟨(some 44), none, .load true 4 (.tmp 43)⟩, ⟨(some 43), none, .iaddr 4 (.tmp 41) (.tmp 42)⟩, ⟨(some 41), none, .load false 1 (.tmp 40)⟩, ⟨(some 40), none, .faddr 0 (.tmp 39)⟩, ⟨(some 39), none, .faddr 0 (.tmp 38)⟩, ⟨(some 38), none, .nilck (.tmp 37)⟩] (
 .step ⟨(some 46), none, .mkfn (.method "dipworks/watch.minutes") [(.tmp 36)] []⟩ (
 .step ⟨(some 47), none, .nilckM [(109, 127), (111, 130)] "dipworks/watch.minutes" (.tmp 46)⟩ (
 .step ⟨(some 48), none, .mov (.tmp 36)⟩ (
 .ev ⟨(some 49), none, .inv [(109, 127), (111, 130)] (.tmp 48) [(.tmp 45)]⟩ [⟨(some 47), none, .nilckM [(109, 127), (111, 130)] "dipworks/watch.minutes" (.tmp 46)⟩, ⟨(some 44), none, .load true 4 (.tmp 43)⟩, ⟨(some 43), none, .iaddr 4 (.tmp 41) (.tmp 42)⟩, ⟨(some 41), none, .load false 1 (.tmp 40)⟩, ⟨(some 40), none, .faddr 0 (.tmp 39)⟩, ⟨(some 39), none, .faddr 0 (.tmp 38)⟩, ⟨(some 38), none, .nilck (.tmp 37)⟩, ⟨(some 35), none, .load true 5 (.tmp 9)⟩] (
 .done)
 (.stop)))))
 (.stop)))))))))))))
 (.block 0 (.seq (.gcp)
 (.rangeF (.tmp 49) 50 (.reg [⟨(some 11), none, .mov (.tmp 50)⟩])
 (.block 1 (.seq (.reg [⟨(some 51), none, .load false 1 (.tmp 10)⟩,
 ⟨(some 52), none, .len (.tmp 51)⟩,
 ⟨(some 53), none, .bin .sub (.tmp 52) (.lit (.int .i64 1))⟩,
 ⟨(some 12), none, .mov (.tmp 53)⟩])
 (.seq (.reg [⟨(some 54), none, .mov (.tmp 12)⟩,
 ⟨(some 55), none, .bin .geq (.tmp 54) (.lit (.int .i64 0))⟩,
 ⟨(some 56), none, .mov (.tmp 55)⟩,
 ⟨(some 57), (some (56, true)), .load false 1 (.tmp 10)⟩,
 ⟨(some 58), (some (56, true)), .mov (.tmp 12)⟩,
 ⟨(some 59), (some (56, true)), .iaddr 2 (.tmp 57) (.tmp 58)⟩,
 ⟨(some 60), (some (56, true)), .faddr 1 (.tmp 59)⟩,
 ⟨(some 61), (some (56, true)), .load false 1 (.tmp 60)⟩,
 ⟨(some 62), (some (56, true)), .mov (.tmp 11)⟩,
 ⟨(some 63), (some (56, true)), .bin .sub (.tmp 62) (.lit (.int .i64 1))⟩,
 ⟨(some 64), (some (56, true)), .bin .eql (.tmp 61) (.tmp 63)⟩,
 ⟨(some 65), none, .pick (.tmp 56) (.tmp 64) (.lit (.bool false))⟩])
 (.cond (.tmp 65) (.reg [⟨(some 66), none, .load false 1 (.tmp 10)⟩,
 ⟨(some 67), none, .mov (.tmp 12)⟩,
 ⟨(some 68), none, .mov (.tmp 11)⟩,
 ⟨(some 69), none, .iaddr 2 (.tmp 66) (.tmp 67)⟩,
 ⟨(some 70), none, .faddr 1 (.tmp 69)⟩,
 ⟨none, none, .store 1 (.tmp 70) (.tmp 68)⟩])
 (.reg [⟨(some 71), none, .load false 1 (.tmp 10)⟩,
 ⟨(some 72), none, .mov (.tmp 11)⟩,
 ⟨(some 73), none, .mov (.tmp 11)⟩,
 ⟨(some 74), none, .build [(.int .i64 0), (.int .i64 0)] [(0, 1, (.tmp 72)), (1, 1, (.tmp 73))]⟩,
 ⟨(some 75), none, .bslice 2 (.agg #[(.int .i64 0), (.int .i64 0)]) 1 [(0, (.tmp 74))]⟩,
 ⟨(some 76), none, .app 2 16 (.tmp 71) (.tmp 75)⟩,
 ⟨none, none, .store 1 (.tmp 10) (.tmp 76)⟩])))))))))
 (.seq (.reg [⟨(some 77), none, .load false 1 (.tmp 10)⟩,
 ⟨(some 78), none, .len (.tmp 77)⟩,
 ⟨(some 79), none, .bin .gtr (.tmp 78) (.lit (.int .i64 0))⟩,
 ⟨(some 80), none, .call (.fn 34) [(.tmp 79), (.lit (.int .i64 4))]⟩])
 (.seq (.reg [⟨(some 81), none, .load false 1 (.tmp 10)⟩,
 ⟨(some 6), none, .mov (.tmp 81)⟩,
 ⟨none, none, .store 1 (.tmp 7) (.lit (.int .i64 0))⟩])
 (.ret)))))))))
theorem k11 : FnC Tryz.prog 11 82 [6, 7] [1000000] [.tmp 6, .cell 7 false 1] c11 3 := ⟨Tryz.f11, _, Tryz.func11, rfl, by decide, rfl, by decide, by kernel_rfl, by kernel_rfl⟩
/-- dipworks/watch.Sure -/
def c23 : AC :=
 .seq (.reg [⟨(some 1), none, .box (.tmp 0)⟩,
 ⟨(some 2), none, .mov (.lit (.slice none 0 0))⟩,
 ⟨(some 3), none, .alloc [(.int .i64 0)]⟩])
 (.seq (.reg [⟨(some 10), none, .mkfn (.func 63) [] [(.tmp 3)]⟩,
 ⟨none, none, .deferF (.tmp 10) []⟩])
 (.seq (.reg [⟨(some 11), none, .load true 2 (.tmp 1)⟩,
 ⟨(some 12), none, .call (.fn 31) [(.tmp 11), (.lit (.bool true))]⟩,
 ⟨(some 4), none, .mov (.tmp 12)⟩])
 (.seq (.reg [⟨(some 13), none, .mov (.tmp 4)⟩,
 ⟨(some 14), none, .call (.fn 56) [(.tmp 13)]⟩,
 ⟨(some 5), none, .alloc [(.int .i64 0), (.int .i64 0), (.int .i64 0), (.int .i64 0)]⟩,
 ⟨none, none, .store 4 (.tmp 5) (.tmp 14)⟩])
 (.seq (.reg [⟨(some 6), none, .mov (.lit (.slice none 0 0))⟩])
 (.seq (.seq (.seq (.gcp)
 (.reg [⟨(some 15), none, .mov (.tmp 4)⟩,
 ⟨(some 16), none, .nilck (.tmp 15)⟩,
 ⟨(some 17), none, .faddr 0 (.tmp 16)⟩,
 ⟨(some 18), none, .faddr 1 (.tmp 17)⟩,
 ⟨(some 19), none, .load false 1 (.tmp 18)⟩,
 ⟨(some 20), none, .len (.tmp 19)⟩,
 ⟨(some 21), none, .slc (some 4) 1 (.tmp 5) none (some (.tmp 20))⟩,
 ⟨(some 22), none, .len (.tmp 21)⟩,
 ⟨(some 23), none, .mov (.lit (.int .i64 0))⟩]))
 (.block 0 (.loop (.seq (.reg [⟨(some 24), none, .bin .lss (.tmp 23) (.tmp 22)⟩])
 (.seq (.cond (.tmp 24) (.skip)
 (.exit 0))
 (.seq (.block 1 (.seq (.reg [⟨(some 25), none, .iaddr 1 (.tmp 21) (.tmp 23)⟩,
 ⟨(some 26), none, .load false 1 (.tmp 25)⟩,
 ⟨(some 8), none, .mov (.tmp 26)⟩])
 (.seq (.reg [⟨(some 9), none, .mov (.lit (.int .i64 (-1)))⟩])
 (.seq (.seq (.reg [⟨(some 27), none, .mov (.tmp 8)⟩,
 ⟨(some 28), none, .conv .u64 (.tmp 27)⟩,
 ⟨(some 29), none, .call (.fn 64) [(.tmp 28)]⟩,
 ⟨(some 30), none, .bin .eql (.tmp 29) (.lit (.int .i64 1))⟩])
 (.cond (.tmp 30) (.reg [⟨(some 31), none, .mov (.tmp 8)⟩,
 ⟨(some 32), none, .conv .u64 (.tmp 31)⟩,
 ⟨(some 33), none, .call (.fn 65) [(.tmp 32)]⟩,
 ⟨(some 9), none, .mov (.tmp 33)⟩])
 (.skip)))
 (.reg [⟨(some 34), none, .mov (.tmp 6)⟩,
 ⟨(some 35), none, .mov (.tmp 9)⟩,
 ⟨(some 36), none, .bslice 1 (.int .i64 0) 1 [(0, (.tmp 35))]⟩,
 ⟨(some 37), none, .app 1 8 (.tmp 34) (.tmp 36)⟩,
 ⟨(some 6), none, .mov (.tmp 37)⟩])))))
 (.reg [⟨(some 38), none, .bin .add (.tmp 23) (.lit (.int .i64 1))⟩,
 ⟨(some 23), none, .mov (.tmp 38)⟩])))))))
 (.seq (.reg [⟨(some 39), none, .mov (.tmp 6)⟩,
 ⟨(some 2), none, .mov (.tmp 39)⟩,
 ⟨none, none, .store 1 (.tmp 3) (.lit (.int .i64 0))⟩])
 (.ret)))))))
theorem k23 : FnC Tryz.prog 23 40 [2, 3] [5] [.tmp 2, .cell 3 false 1] c23 1 := ⟨Tryz.f23, _, Tryz.func23, rfl, by decide, rfl, by decide, by kernel_rfl, by kernel_rfl⟩
/-- dipworks/watch.Clash -/
def c25 : AC :=
 .seq (.reg [⟨(some 1), none, .box (.tmp 0)⟩,
 ⟨(some 2), none, .mov (.lit (.int .i64 0))⟩,
 ⟨(some 3), none, .alloc [(.int .i64 0)]⟩])
 (.seq (.reg [⟨(some 10), none, .mkfn (.func 66) [] [(.tmp 3)]⟩,
 ⟨none, none, .deferF (.tmp 10) []⟩])
 (.seq (.reg [⟨(some 11), none, .load true 2 (.tmp 1)⟩,
 ⟨(some 12), none, .call (.fn 31) [(.tmp 11), (.lit (.bool true))]⟩,
 ⟨(some 4), none, .mov (.tmp 12)⟩])
 (.seq (.reg [⟨(some 13), none, .mov (.tmp 4)⟩,
 ⟨(some 14), none, .nilck (.tmp 13)⟩,
 ⟨(some 15), none, .faddr 2 (.tmp 14)⟩,
 ⟨(some 16), none, .load false 1 (.tmp 15)⟩,
 ⟨(some 17), none, .call (.fn 53) [(.tmp 16)]⟩,
 ⟨(some 18), none, .bin .eql (.tmp 17) (.lit (.int .i64 0))⟩,
 ⟨(some 19), none, .call (.fn 34) [(.tmp 18), (.lit (.int .i64 4))]⟩])
 (.seq (.seq (.reg [⟨(some 20), none, .mov (.tmp 4)⟩,
 ⟨(some 21), none, .nilck (.tmp 20)⟩,
 ⟨(some 22), none, .faddr 2 (.tmp 21)⟩,
 ⟨(some 23), none, .load false 1 (.tmp 22)⟩,
 ⟨(some 24), none, .len (.tmp 23)⟩,
 ⟨(some 25), none, .bin .add (.tmp 24) (.lit (.int .i64 1))⟩,
 ⟨(some 26), none, .mov (.lit (.int .i64 0))⟩])
 (.block 0 (.loop (.seq (.reg [⟨(some 27), none, .bin .lss (.tmp 26) (.tmp 25)⟩])
 (.seq (.cond (.tmp 27) (.skip)
 (.exit 0))
 (.seq (.block 1 (.seq (.reg [⟨(some 28), none, .mov (.tmp 26)⟩,
 ⟨(some 5), none, .mov (.tmp 28)⟩])
 (.seq (.reg [⟨(some 29), none, .mov (.tmp 4)⟩,
 ⟨(some 30), none, .nilck (.tmp 29)⟩,
 ⟨(some 31), none, .faddr 2 (.tmp 30)⟩,
 ⟨(some 32), none, .load false 1 (.tmp 31)⟩,
 ⟨(some 33), none, .len (.tmp 32)⟩,
 ⟨(some 34), none, .bin .shl (.lit (.int .i64 1)) (.tmp 33)⟩,
 ⟨(some 35), none, .mov (.lit (.int .i64 0))⟩])
 (.block 2 (.loop (.seq (.reg [⟨(some 36), none, .bin .lss (.tmp 35) (.tmp 34)⟩])
 (.seq (.cond (.tmp 36) (.skip)
 (.exit 2))
 (.seq (.block 3 (.seq (.reg [⟨(some 37), none, .mov (.tmp 35)⟩,
 ⟨(some 6), none, .mov (.tmp 37)⟩])
 (.seq (.reg [⟨(some 7), none, .mov (.lit (.slice none 0 0))⟩])
 (.seq (.seq (.reg [⟨(some 38), none, .mov (.tmp 4)⟩,
 ⟨(some 39), none, .nilck (.tmp 38)⟩,
 ⟨(some 40), none, .faddr 2 (.tmp 39)⟩,
 ⟨(some 41), none, .load false 1 (.tmp 40)⟩,
 ⟨(some 42), none, .len (.tmp 41)⟩,
 ⟨(some 43), none, .mov (.lit (.int .i64 0))⟩])
 (.block 4 (.loop (.seq (.reg [⟨(some 44), none, .bin .lss (.tmp 43) (.tmp 42)⟩])
 (.seq (.cond (.tmp 44) (.skip)
 (.exit 4))
 (.seq (.block 5 (.seq (.reg [⟨(some 45), none, .mov (.tmp 43)⟩,
 ⟨(some 46), none, .iaddr 1 (.tmp 41) (.tmp 43)⟩,
 ⟨(some 47), none, .load false 1 (.tmp 46)⟩,
 ⟨(some 8), none, .mov (.tmp 45)⟩,
 ⟨(some 9), none, .mov (.tmp 47)⟩])
 (.seq (.reg [⟨(some 48), none, .mov (.tmp 6)⟩,
 ⟨(some 49), none, .mov (.tmp 8)⟩,
 ⟨(some 50), none, .bin .shr (.tmp 48) (.tmp 49)⟩,
 ⟨(some 51), none, .bin .and (.tmp 50) (.lit (.int .i64 1))⟩,
 ⟨(some 52), none, .bin .eql (.tmp 51) (.lit (.int .i64 1))⟩])
 (.cond (.tmp 52) (.reg [⟨(some 53), none, .mov (.tmp 7)⟩,
 ⟨(some 54), none, .mov (.tmp 9)⟩,
 ⟨(some 55), none, .bslice 1 (.int .i64 0) 1 [(0, (.tmp 54))]⟩,
 ⟨(some 56), none, .app 1 8 (.tmp 53) (.tmp 55)⟩,
 ⟨(some 7), none, .mov (.tmp 56)⟩])
 (.skip)))))
 (.reg [⟨(some 57), none, .bin .add (.tmp 43) (.lit (.int .i64 1))⟩,
 ⟨(some 43), none, .mov (.tmp 57)⟩])))))))
 (.seq (.reg [⟨(some 58), none, .mov (.tmp 6)⟩,
 ⟨(some 59), none, .conv .u64 (.tmp 58)⟩,
 ⟨(some 60), none, .call (.fn 64) [(.tmp 59)]⟩,
 ⟨(some 61), none, .mov (.tmp 5)⟩,
 ⟨(some 62), none, .bin .eql (.tmp 60) (.tmp 61)⟩,
 ⟨(some 63), none, .mov (.tmp 62)⟩,
 ⟨(some 64), (some (63, true)), .mov (.tmp 7)⟩,
 ⟨(some 65), (some (63, true)), .call (.fn 53) [(.tmp 64)]⟩,
 ⟨(some 66), (some (63, true)), .bin .eql (.tmp 65) (.lit (.int .i64 0))⟩,
 ⟨(some 67), none, .pick (.tmp 63) (.tmp 66) (.lit (.bool false))⟩])
 (.cond (.tmp 67) (.seq (.reg [⟨(some 68), none, .mov (.tmp 6)⟩,
 ⟨(some 2), none, .mov (.tmp 68)⟩,
 ⟨none, none, .store 1 (.tmp 3) (.lit (.int .i64 0))⟩])
 (.ret))
 (.skip)))))))
 (.reg [⟨(some 69), none, .bin .add (.tmp 35) (.lit (.int .i64 1))⟩,
 ⟨(some 35), none, .mov (.tmp 69)⟩])))))))))
 (.reg [⟨(some 70), none, .bin .add (.tmp 26) (.lit (.int .i64 1))⟩,
 ⟨(some 26), none, .mov (.tmp 70)⟩])))))))
 (.seq (.reg [⟨(some 2), none, .mov (.lit (.int .i64 0))⟩,
 ⟨none, none, .store 1 (.tmp 3) (.lit (.int .i64 4))⟩])
 (.ret))))))
theorem k25 : FnC Tryz.prog 25 71 [2, 3] [] [.tmp 2, .cell 3 false 1] c25 1 := ⟨Tryz.f25, _, Tryz.func25, rfl, by decide, rfl, by decide, by kernel_rfl, by kernel_rfl⟩
/-- dipworks/watch.Stopped$1 -/
def i47 : List AI := [⟨(some 2), none, .call (.fn 30) [(.tmp 1), (.tmp 0)]⟩]
theorem b47 : FnB Tryz.prog 47 3 1 i47 1 := ⟨Tryz.f47, _, _, _, _, Tryz.func47, rfl, by decide, rfl, by decide, rfl, rfl, rfl, rfl, by decide, by kernel_rfl⟩
/-- dipworks/watch.Sure$1 -/
def i63 : List AI := [⟨(some 2), none, .call (.fn 30) [(.tmp 1), (.tmp 0)]⟩]
theorem b63 : FnB Tryz.prog 63 3 1 i63 1 := ⟨Tryz.f63, _, _, _, _, Tryz.func63, rfl, by decide, rfl, by decide, rfl, rfl, rfl, rfl, by decide, by kernel_rfl⟩
/-- dipworks/watch.Clash$1 -/
def i66 : List AI := [⟨(some 2), none, .call (.fn 30) [(.tmp 1), (.tmp 0)]⟩]
theorem b66 : FnB Tryz.prog 66 3 1 i66 1 := ⟨Tryz.f66, _, _, _, _, Tryz.func66, rfl, by decide, rfl, by decide, rfl, rfl, rfl, rfl, by decide, by kernel_rfl⟩
end Go.Proofs.YtnmmhkkmejbckaaGreatDoor

/- Sure: whose each find surely is. -/
namespace Go.Proofs.YtnmmhkkmejbckaaGreatDoor
open Go Go.Ab

def sureL (w : Wa) : List Int := (List.range w.fs.length).map fun p => soleI ((whoseL w.fits).getD p 0)
def specSure (w : Wa) : List Int × Int := if w.ok then (if waysN w.fits = 0 then ([], 10) else (sureL w, 0)) else ([], 1)
set_option maxRecDepth 8000 in
set_option maxHeartbeats 4000000 in
theorem Sure_ok (w : Wa) (hL : Lens w) : ACall Tryz.prog 23 [.t (tWa w)] [] (res (lsE (specSure w).1 (specSure w).2)) := by
  refine ACall.walkD k23 ?_
  have ho := open_ok w true hL
  unfold c23
  unfold tWa at ho ⊢
  unfold wa2 at ho ⊢
  simp only [go_sem, Nat.reduceEqDiff, Nat.reduceAdd]
  cases hok : w.ok
  · rw [opnO_bad hok] at ho
    refine ACallL.fresh1 ho rfl ?_
    simp only [go_sem, Nat.reduceEqDiff]
    refine finDL_pan rfl rfl ((dfr_pan b63 rfl).mono ?_)
    rintro σ' rfl
    exact ⟨_, rfl, [], rfl, rfl, res_mk (by unfold specSure; rw [hok]; rfl)⟩
  rw [opnO_ok hok] at ho
  have hw := (w.ok_iff).1 hok
  have ht := told_ok w hw
  have hnf := hw.nf
  refine ACallL.fresh1 ho rfl ?_
  unfold tTab at ht ⊢
  simp only [go_sem, Nat.reduceEqDiff]
  by_cases hz : waysN w.fits = 0
  · have he : tolO w = .pan (stp1 10) := by unfold tolO; rw [if_pos hz]
    rw [he] at ht
    refine ACallL.fresh1 ht rfl ?_
    simp only [go_sem, Nat.reduceEqDiff]
    refine finDL_pan rfl rfl ((dfr_pan b63 rfl).mono ?_)
    rintro σ' rfl
    exact ⟨_, rfl, [], rfl, rfl, res_mk (by unfold specSure; rw [hok, if_pos rfl, if_pos hz]; rfl)⟩
  have he : tolO w = .ret (.t (.agg (w4 (whoseL w.fits)))) := by unfold tolO; rw [if_neg hz]
  have hs : specSure w = (sureL w, 0) := by unfold specSure; rw [hok, if_pos rfl, if_neg hz]
  have hw4 := whose_small w.fits hz
  rw [he] at ht
  have hsl : sureL w = (List.range w.fs.length).map fun p => soleI ((whoseL w.fits).getD p 0) := rfl
  have hsn : ∀ j, (List.range (j + 1)).map (fun p => soleI ((whoseL w.fits).getD p 0)) = (List.range j).map (fun p => soleI ((whoseL w.fits).getD p 0)) ++ [soleI ((whoseL w.fits).getD j 0)] := fun j => by rw [List.range_succ, List.map_append]; rfl
  rw [hsl] at hs
  generalize whoseL w.fits = X at *
  obtain ⟨x0, x1, x2, x3, rfl⟩ := len4 hw4.1
  refine ACallL.fresh1 ht rfl ?_
  simp only [w4, go_sem, Nat.reduceEqDiff, Nat.reduceAdd, undef]
  refine awpL_gcpE [1] [2, 3, 4, 5, 6] { env := [(2, .t (.lit (.slice none 0 0))), (3, .ptr 0 0), (4, .t (tTab w)), (5, .t (.ptr (.agg [vi x0, vi x1, vi x2, vi x3]) 0)), (6, .t (.lit (.slice none 0 0)))], σ := [.cells [.t (vi 0)]], df := [.call 63 [.ptr 0 0]] } (St.gc_mk rfl rfl rfl rfl) rfl rfl ?_
  have b0 : (0 ≤ (w.fs.length : Int)) = True := eq_true (by omega)
  have b1 : ((w.fs.length : Int) ≤ 4) = True := eq_true (by omega)
  simp only [tTab, go_sem, Nat.reduceEqDiff, Nat.reduceAdd, bnd, List.length_map, b0, b1, Int.le_refl, and_self]
  have hlen : (List.take (w.fs.length - 0) [vi (x0 : Nat), vi (x1 : Nat), vi (x2 : Nat), vi (x3 : Nat)]).length = w.fs.length := by
    rw [List.length_take]; simp; omega
  have hget : ∀ j, j < w.fs.length → (List.take (w.fs.length - 0) [vi (x0 : Nat), vi (x1 : Nat), vi (x2 : Nat), vi (x3 : Nat)])[j]? = some (vi (([x0, x1, x2, x3] : List Nat).getD j 0 : Nat)) := fun j hj => by
    rw [List.getElem?_take_of_lt (by omega)]
    have h4 : j = 0 ∨ j = 1 ∨ j = 2 ∨ j = 3 := by omega
    rcases h4 with rfl | rfl | rfl | rfl <;> rfl
  have hsmall : ∀ j, j < w.fs.length → ([x0, x1, x2, x3] : List Nat).getD j 0 < 64 := fun j hj => hw4.2 _ (by
    rw [List.getD_eq_getElem?_getD, List.getElem?_eq_getElem (by simp; omega)]
    exact List.getElem_mem _)
  generalize List.take (w.fs.length - 0) [vi (x0 : Nat), vi (x1 : Nat), vi (x2 : Nat), vi (x3 : Nat)] = Y at *
  generalize hXe : ([x0, x1, x2, x3] : List Nat) = X at *
  simp only [hlen]
  refine awpL_loopK w.fs.length (fun j s => s = { env := [(23, .t (vi j)), (2, .t (.lit (.slice none 0 0))), (3, .ptr 0 0), (6, .loc 1 j), (21, .t (.slice 1 Y)), (22, .t (vi w.fs.length))], σ := [.cells [.t (vi 0)], rowI ((List.range j).map fun p => soleI (X.getD p 0))], df := [.call 63 [.ptr 0 0]] })
    ⟨_, (Sub.ghost 6 1 (by decide) rfl).trans (Sub.gc [0, 1] [23, 2, 3, 6, 21, 22] rfl rfl), St.gc_mk rfl rfl rfl rfl⟩ ?_
  rintro j s hj rfl
  have hj0 : ((j : Int) < 0) = False := eq_false (by omega)
  have hlj : ((List.range j).map fun p => soleI (X.getD p 0)).length = j := by simp
  cases g : decide ((j : Int) < (w.fs.length : Int))
  · have hje : j = w.fs.length := by have := of_decide_eq_false g; omega
    subst hje
    simp only [go_sem, Nat.reduceEqDiff, undef, g]
    refine finDL_ret rfl rfl ((dfr_none b63 rfl).mono ?_)
    rintro σ' rfl
    refine ⟨_, rfl, [], rfl, rfl, res_mk ?_⟩
    rw [hs]
    refine congrArg Out.ret ?_
    have key : ∀ σ : List AO, σ[1]? = some (rowI ((List.range w.fs.length).map fun p => soleI (X.getD p 0))) → E.gc [] σ 12 (.tup [.loc 1 w.fs.length, .t (vi 0)]) = .tup [.t (.slice 1 (((List.range w.fs.length).map fun p => soleI (X.getD p 0)).map vi)), .t (vi 0)] := fun σ h => by
      rw [E.gc]
      simp only [List.map_cons, List.map_nil]
      rw [gc_loc (n := 9) rfl h (by rw [List.length_map, hlj])]
      rfl
    exact key _ rfl
  have hlt : j < w.fs.length := by have := of_decide_eq_true g; omega
  have hgj := hget j hlt
  have hsm := hsmall j hlt
  have w1 : IntKind.i64.wrap ((j : Int) + 1) = ((j + 1 : Nat) : Int) := by rw [wrap_id (by omega) (by omega)]; omega
  have x1' : (j + 1 ≤ maxLen) = True := eq_true (by unfold maxLen; omega)
  have x2' : ((j + 1) * 8 ≤ 140737488355328) = True := eq_true (by omega)
  rw [hsn j]
  generalize X.getD j 0 = x at *
  have hcv : IntKind.u64.wrap (x : Int) = x := u64_nat (by omega)
  have hones := ones_ok x hsm
  generalize (List.range j).map (fun p => soleI (X.getD p 0)) = P at *
  have hso : soleI x = if size x = 1 then ((x.log2 : Nat) : Int) else -1 := rfl
  have happ : ∀ v : Int, ((P.map vi).map E.t) ++ [E.t (vi v)] = (((P ++ [v]).map vi).map E.t) := fun v => by simp
  by_cases h1 : size x = 1
  · obtain ⟨e1, e2⟩ := size_one x hsm h1
    have htz := tz64_ok x.log2 (by omega)
    rw [← e1] at htz
    rw [hso, if_pos h1]
    rw [h1] at hones
    have happ' := happ (x.log2 : Nat)
    simp only [go_sem, Nat.reduceEqDiff, Int.reduceNeg, g, hgj, hcv]
    refine ACallL.quiet1 hones rfl rfl rfl ?_
    simp only [go_sem, Nat.reduceEqDiff, Int.reduceNeg, beq_self_eq_true, hcv]
    refine ACallL.quiet1 htz rfl rfl rfl ?_
    simp only [go_sem, Nat.reduceEqDiff, Nat.reduceAdd, Nat.reduceLT, Int.reduceNeg, hlj, x1', x2', w1, List.length_map, happ']
    refine ⟨hlt, _, Sub.gc [0, 1] [23, 2, 3, 6, 21, 22] rfl rfl, St.gc_mk rfl ?_ rfl rfl⟩
    unfold σgc
    simp only [List.map_cons, List.map_nil, List.getD_cons_zero, List.getD_cons_succ, AO.gc, gc_row]
    rfl
  · have z1 : (((size x : Nat) : Int) == 1) = false := beq_false_of_ne (by omega)
    rw [hso, if_neg h1]
    have happ' := happ (-1)
    simp only [go_sem, Nat.reduceEqDiff, Int.reduceNeg, g, hgj, hcv]
    refine ACallL.quiet1 hones rfl rfl rfl ?_
    simp only [go_sem, Nat.reduceEqDiff, Nat.reduceAdd, Nat.reduceLT, Int.reduceNeg, z1, hlj, x1', x2', w1, List.length_map, happ']
    refine ⟨hlt, _, Sub.gc [0, 1] [23, 2, 3, 6, 21, 22] rfl rfl, St.gc_mk rfl ?_ rfl rfl⟩
    unfold σgc
    simp only [List.map_cons, List.map_nil, List.getD_cons_zero, List.getD_cons_succ, AO.gc, gc_row]
    rfl
end Go.Proofs.YtnmmhkkmejbckaaGreatDoor

/- Clash: which finds cannot all be so. -/
namespace Go.Proofs.YtnmmhkkmejbckaaGreatDoor
open Go Go.Ab

/-- The finds of a set. -/
def pickN (fits : List Nat) (set : Nat) : Nat → List Nat
  | 0 => []
  | j + 1 => pickN fits set j ++ if set.testBit j then [fits.getD j 0] else []
def pick (fits : List Nat) (set : Nat) : List Nat := pickN fits set fits.length
theorem pickN_ok {fits : List Nat} (hf : ∀ x ∈ fits, x < 64) (set : Nat) : ∀ j, j ≤ fits.length → (pickN fits set j).length ≤ j ∧ ∀ x ∈ pickN fits set j, x < 64
  | 0, _ => ⟨Nat.le_refl _, fun x hx => by simp [pickN] at hx⟩
  | j + 1, hj => by
    obtain ⟨h1, h2⟩ := pickN_ok hf set j (by omega)
    have hm : fits.getD j 0 < 64 := hf _ (by
      rw [List.getD_eq_getElem?_getD, List.getElem?_eq_getElem (by omega)]
      exact List.getElem_mem _)
    unfold pickN
    split
    · refine ⟨by rw [List.length_append]; simp; omega, fun x hx => ?_⟩
      rcases List.mem_append.1 hx with h | h
      · exact h2 x h
      · rw [List.mem_singleton] at h; rw [h]; exact hm
    · rw [List.append_nil]
      exact ⟨by omega, h2⟩
def clashB (fits : List Nat) (m s : Nat) : Bool := decide (size s = m) && decide (waysN (pick fits s) = 0)
def clashSet (fits : List Nat) (m : Nat) : Nat → Nat → Option Nat
  | 0, _ => none
  | k + 1, s => if clashB fits m s then some s else clashSet fits m k (s + 1)
def clashUp (fits : List Nat) : Nat → Nat → Option Nat
  | 0, _ => none
  | k + 1, m => match clashSet fits m (2 ^ fits.length) 0 with
    | some s => some s
    | none => clashUp fits k (m + 1)
def clashF (fits : List Nat) : Option Nat := clashUp fits (fits.length + 1) 0
def specClash (w : Wa) : Int × Int := if w.ok then (if waysN w.fits = 0 then (match clashF w.fits with
  | some s => (((s : Nat) : Int), 0)
  | none => (0, 4)) else (0, 4)) else (0, 1)

set_option maxRecDepth 8000 in
set_option maxHeartbeats 8000000 in
theorem Clash_ok (w : Wa) (hL : Lens w) : ACall Tryz.prog 25 [.t (tWa w)] [] (res (oneE (specClash w).1 (specClash w).2)) := by
  refine ACall.walkD k25 ?_
  have ho := open_ok w true hL
  have good := @must_ok true 4
  have bad := @must_ok false 4
  unfold c25
  unfold tWa at ho ⊢
  unfold wa2 at ho ⊢
  simp only [go_sem, Nat.reduceEqDiff, Nat.reduceAdd]
  cases hok : w.ok
  · rw [opnO_bad hok] at ho
    refine ACallL.fresh1 ho rfl ?_
    simp only [go_sem, Nat.reduceEqDiff]
    refine finDL_pan rfl rfl ((dfr_pan b66 rfl).mono ?_)
    rintro σ' rfl
    exact ⟨_, rfl, [], rfl, rfl, res_mk (by unfold specClash; rw [hok]; rfl)⟩
  rw [opnO_ok hok] at ho
  have hw := (w.ok_iff).1 hok
  obtain ⟨f1, f2⟩ := fits_small hw
  have hwy := ways_ok w.fits f1 f2
  refine ACallL.fresh1 ho rfl ?_
  simp only [tTab, go_sem, Nat.reduceEqDiff, Nat.reduceAdd]
  refine ACallL.fresh1 hwy rfl ?_
  by_cases hz : waysN w.fits = 0
  rotate_left
  · have z1 : (((waysN w.fits : Nat) : Int) == 0) = false := beq_false_of_ne (by omega)
    simp only [go_sem, Nat.reduceEqDiff, z1]
    refine ACallL.quiet1 bad rfl rfl rfl ?_
    simp only [go_sem, Nat.reduceEqDiff, Nat.reduceAdd]
    refine finDL_pan rfl rfl ((dfr_pan b66 rfl).mono ?_)
    rintro σ' rfl
    exact ⟨_, rfl, [], rfl, rfl, res_mk (by unfold specClash; rw [hok, if_pos rfl, if_neg hz]; rfl)⟩
  have z1 : (((waysN w.fits : Nat) : Int) == 0) = true := beq_iff_eq.2 (by omega)
  have hs : specClash w = match clashF w.fits with | some s => (((s : Nat) : Int), 0) | none => (0, 4) := by unfold specClash; rw [hok, if_pos rfl, if_pos hz]
  have hcf : clashF w.fits = clashUp w.fits (w.fits.length + 1) 0 := rfl
  simp only [go_sem, Nat.reduceEqDiff, z1]
  refine ACallL.quiet1 good rfl rfl rfl ?_
  have hlt : (tNs w.fits).length = w.fits.length := by unfold tNs; simp
  have hwl : IntKind.i64.wrap ((w.fits.length : Int) + 1) = ((w.fits.length + 1 : Nat) : Int) := by rw [wrap_id (by omega) (by omega)]; omega
  have hshl : IntKind.i64.wrap (1 * 2 ^ (min w.fits.length 64)) = ((2 ^ w.fits.length : Nat) : Int) := shl_one (by omega)
  have hl0 : ((w.fits.length : Int) < 0) = False := eq_false (by omega)
  have hp16 : 2 ^ w.fits.length ≤ 2 ^ 4 := Nat.pow_le_pow_right (by omega) f1
  have hpk := fun set j hj => pickN_ok f2 set j hj
  have hgf : ∀ j, j < w.fits.length → (tNs w.fits)[j]? = some (vi (w.fits.getD j 0 : Nat)) := fun j hj => by
    unfold tNs
    rw [List.getElem?_map, List.getElem?_eq_getElem hj, List.getD_eq_getElem?_getD, List.getElem?_eq_getElem hj]; rfl
  simp only [go_sem, Nat.reduceEqDiff, Nat.reduceAdd, hlt, hwl]
  refine awpL_loopK (w.fits.length + 1) (fun m s => clashF w.fits = clashUp w.fits (w.fits.length + 1 - m) m ∧ s = { env := [(26, .t (vi m)), (2, .t (vi 0)), (3, .ptr 0 0), (4, .t (tTab w)), (25, .t (vi (w.fits.length + 1 : Nat)))], σ := [.cells [.t (vi 0)]], df := [.call 66 [.ptr 0 0]] })
    ⟨_, Sub.gc [1] [26, 2, 3, 4, 25] rfl rfl, hcf, St.gc_mk rfl rfl rfl rfl⟩ ?_
  rintro m s hm ⟨hcm, rfl⟩
  unfold tTab
  cases g : decide ((m : Int) < ((w.fits.length + 1 : Nat) : Int))
  · have he : m = w.fits.length + 1 := by have := of_decide_eq_false g; omega
    rw [he, Nat.sub_self] at hcm
    simp only [go_sem, Nat.reduceEqDiff, undef, g]
    refine finDL_ret rfl rfl ((dfr_none b66 rfl).mono ?_)
    rintro σ' rfl
    refine ⟨_, rfl, [], rfl, rfl, res_mk ?_⟩
    rw [hs, hcm]
    rfl
  have hml : m < w.fits.length + 1 := by have := of_decide_eq_true g; omega
  have wm : IntKind.i64.wrap ((m : Int) + 1) = ((m + 1 : Nat) : Int) := by rw [wrap_id (by omega) (by omega)]; omega
  have hcu : clashUp w.fits (w.fits.length + 1 - m) m = match clashSet w.fits m (2 ^ w.fits.length) 0 with | some s => some s | none => clashUp w.fits (w.fits.length + 1 - (m + 1)) (m + 1) := by
    rw [show w.fits.length + 1 - m = (w.fits.length + 1 - (m + 1)) + 1 by omega, clashUp]
  rw [hcu] at hcm
  simp only [go_sem, Nat.reduceEqDiff, Nat.reduceAdd, g, hlt, hl0, hshl, IntKind.bits]
  refine awpL_loopK (2 ^ w.fits.length) (fun k s => clashSet w.fits m (2 ^ w.fits.length) 0 = clashSet w.fits m (2 ^ w.fits.length - k) k ∧ s = { env := [(35, .t (vi k)), (2, .t (vi 0)), (3, .ptr 0 0), (4, .t (tTab w)), (5, .t (vi m)), (25, .t (vi (w.fits.length + 1 : Nat))), (26, .t (vi m)), (34, .t (vi (2 ^ w.fits.length : Nat)))], σ := [.cells [.t (vi 0)]], df := [.call 66 [.ptr 0 0]] })
    ⟨_, Sub.gc [0] [35, 2, 3, 4, 5, 25, 26, 34] rfl rfl, rfl, St.gc_mk rfl rfl rfl rfl⟩ ?_
  rintro k s hk ⟨hck, rfl⟩
  unfold tTab
  cases g2 : decide ((k : Int) < ((2 ^ w.fits.length : Nat) : Int))
  · have he : k = 2 ^ w.fits.length := by have := of_decide_eq_false g2; omega
    rw [he, Nat.sub_self] at hck
    have hck2 : clashSet w.fits m (2 ^ w.fits.length) 0 = none := hck
    rw [hck2] at hcm
    simp only [go_sem, Nat.reduceEqDiff, undef, g2, wm]
    exact ⟨hml, _, Sub.gc [0] [26, 2, 3, 4, 25] rfl rfl, hcm, St.gc_mk rfl rfl rfl rfl⟩
  have hkl : k < 2 ^ w.fits.length := by have := of_decide_eq_true g2; omega
  have wk : IntKind.i64.wrap ((k : Int) + 1) = ((k + 1 : Nat) : Int) := by rw [wrap_id (by omega) (by omega)]; omega
  have hcs : clashSet w.fits m (2 ^ w.fits.length - k) k = if clashB w.fits m k then some k else clashSet w.fits m (2 ^ w.fits.length - (k + 1)) (k + 1) := by
    rw [show 2 ^ w.fits.length - k = (2 ^ w.fits.length - (k + 1)) + 1 by omega, clashSet]
  rw [hcs] at hck
  have hbit := fun i => bit_eq (a := k) (i := i) (by omega)
  simp only [go_sem, Nat.reduceEqDiff, Nat.reduceAdd, g2, hlt]
  refine awpL_loopK w.fits.length (fun j s => s = { env := [(43, .t (vi j)), (2, .t (vi 0)), (3, .ptr 0 0), (4, .t (tTab w)), (5, .t (vi m)), (6, .t (vi k)), (7, .loc 1 (pickN w.fits k j).length), (25, .t (vi (w.fits.length + 1 : Nat))), (26, .t (vi m)), (34, .t (vi (2 ^ w.fits.length : Nat))), (35, .t (vi k)), (41, .t (.slice 1 (tNs w.fits))), (42, .t (vi w.fits.length))], σ := [.cells [.t (vi 0)], .row 1 ((tNs (pickN w.fits k j)).map .t)], df := [.call 66 [.ptr 0 0]] })
    ⟨_, (Sub.ghost 7 1 (by decide) rfl).trans (Sub.gc [0, 1] [43, 2, 3, 4, 5, 6, 7, 25, 26, 34, 35, 41, 42] rfl rfl), St.gc_mk rfl rfl rfl rfl⟩ ?_
  rintro j s hj rfl
  unfold tTab
  have hj0 : ((j : Int) < 0) = False := eq_false (by omega)
  have hlp : (tNs (pickN w.fits k j)).length = (pickN w.fits k j).length := by unfold tNs; simp
  obtain ⟨hpl, hps⟩ := hpk k j hj
  cases g3 : decide ((j : Int) < (w.fits.length : Int))
  · have he : j = w.fits.length := by have := of_decide_eq_false g3; omega
    have hpe : pickN w.fits k j = pick w.fits k := by rw [he]; rfl
    rw [hpe] at hpl hps hlp ⊢
    have hones := ones_ok k (by omega)
    have hcv : IntKind.u64.wrap (k : Int) = k := u64_nat (by omega)
    have hwp := ways_ok (pick w.fits k) (by omega) hps
    have hcb : clashB w.fits m k = (decide (size k = m) && decide (waysN (pick w.fits k) = 0)) := rfl
    have hargs : ∀ σ : List AO, σ[1]? = some (.row 1 ((tNs (pick w.fits k)).map .t)) → [E.loc 1 (pick w.fits k).length].map (E.gc [] σ 12) = [.t (.slice 1 (tNs (pick w.fits k)))] := fun σ h => by
      simp only [List.map_cons, List.map_nil]
      rw [gc_loc rfl h (by rw [hlp])]
    rw [hcb] at hck
    generalize waysN (pick w.fits k) = N at *
    generalize pick w.fits k = Q at *
    by_cases e1 : size k = m
    · have z2 : (((size k : Nat) : Int) == (m : Int)) = true := beq_iff_eq.2 (by omega)
      rw [decide_eq_true e1, Bool.true_and] at hck
      simp only [go_sem, Nat.reduceEqDiff, undef, g3, hcv]
      refine ACallL.quiet1 hones rfl rfl rfl ?_
      simp only [go_sem, Nat.reduceEqDiff, beq_self_eq_true, z2]
      refine ACallL.quiet1 hwp rfl (hargs _ rfl) rfl ?_
      by_cases e2 : N = 0
      · have z3 : (((N : Nat) : Int) == 0) = true := beq_iff_eq.2 (by omega)
        rw [decide_eq_true e2, if_pos rfl] at hck
        rw [hck] at hcm
        simp only [go_sem, Nat.reduceEqDiff, undef, beq_self_eq_true, z3]
        refine finDL_ret rfl rfl ((dfr_none b66 rfl).mono ?_)
        rintro σ' rfl
        refine ⟨_, rfl, [], rfl, rfl, res_mk ?_⟩
        rw [hs, hcm]
        rfl
      · have z3 : (((N : Nat) : Int) == 0) = false := beq_false_of_ne (by omega)
        rw [decide_eq_false e2, if_neg (by decide)] at hck
        simp only [go_sem, Nat.reduceEqDiff, beq_self_eq_true, z3, wk]
        exact ⟨hkl, _, Sub.gc [0] [35, 2, 3, 4, 5, 25, 26, 34] rfl rfl, hck, St.gc_mk rfl rfl rfl rfl⟩
    · have z2 : (((size k : Nat) : Int) == (m : Int)) = false := beq_false_of_ne (by omega)
      rw [decide_eq_false e1, Bool.false_and, if_neg (by decide)] at hck
      simp only [go_sem, Nat.reduceEqDiff, undef, g3, hcv]
      refine ACallL.quiet1 hones rfl rfl rfl ?_
      simp only [go_sem, Nat.reduceEqDiff, undef, z2, wk]
      exact ⟨hkl, _, Sub.gc [0] [35, 2, 3, 4, 5, 25, 26, 34] rfl rfl, hck, St.gc_mk rfl rfl rfl rfl⟩
  have hjl : j < w.fits.length := by have := of_decide_eq_true g3; omega
  have wj : IntKind.i64.wrap ((j : Int) + 1) = ((j + 1 : Nat) : Int) := by rw [wrap_id (by omega) (by omega)]; omega
  have hps1 : pickN w.fits k (j + 1) = pickN w.fits k j ++ if k.testBit j then [w.fits.getD j 0] else [] := rfl
  have hgj := hgf j hjl
  have hbj := hbit j
  rw [hps1]
  generalize pickN w.fits k j = P at *
  generalize w.fits.getD j 0 = x at *
  have x1 : (P.length + 1 ≤ maxLen) = True := eq_true (by unfold maxLen; omega)
  have x2 : ((P.length + 1) * 8 ≤ 140737488355328) = True := eq_true (by omega)
  cases hb : k.testBit j
  · rw [hb] at hbj
    simp only [go_sem, Nat.reduceEqDiff, g3, hj0, hgj, IntKind.bits, hbj, wj]
    refine ⟨hjl, _, Sub.gc [0, 1] [43, 2, 3, 4, 5, 6, 7, 25, 26, 34, 35, 41, 42] rfl rfl, ?_⟩
    refine St.gc_mk rfl ?_ rfl rfl
    unfold σgc
    simp only [List.map_cons, List.map_nil, List.getD_cons_zero, List.getD_cons_succ, AO.gc, gc_tNs]
    rfl
  · rw [hb] at hbj
    have happ : ((tNs P).map E.t) ++ [E.t (vi (x : Nat))] = (tNs (P ++ [x])).map E.t := by simp [tNs]
    have hl1 : (P ++ [x]).length = P.length + 1 := by simp
    simp only [go_sem, Nat.reduceEqDiff, Nat.reduceAdd, Nat.reduceLT, g3, hj0, hgj, IntKind.bits, hbj, wj, x1, x2, hlp, happ, List.length_map]
    refine ⟨hjl, _, Sub.gc [0, 1] [43, 2, 3, 4, 5, 6, 7, 25, 26, 34, 35, 41, 42] rfl rfl, ?_⟩
    rw [hl1]
    refine St.gc_mk rfl ?_ rfl rfl
    unfold σgc
    simp only [List.map_cons, List.map_nil, List.getD_cons_zero, List.getD_cons_succ, AO.gc, gc_tNs]
    rfl
end Go.Proofs.YtnmmhkkmejbckaaGreatDoor

/- When a watch stopped: the program's spans. -/
namespace Go.Proofs.YtnmmhkkmejbckaaGreatDoor
open Go Go.Ab

/-! ### Stopped -/
def stepS (X : List (Int × Int)) (m : Int) : List (Int × Int) := match X.getLast? with
  | some p => if p.2 = m - 1 then X.dropLast ++ [(p.1, m)] else X ++ [(m, m)]
  | none => X ++ [(m, m)]
def spansL (L : List Int) : List (Int × Int) := L.foldl stepS []
theorem spansL_snoc (L : List Int) (m : Int) : spansL (L ++ [m]) = stepS (spansL L) m := by unfold spansL; rw [List.foldl_append]; rfl
theorem stepS_len (X : List (Int × Int)) (m : Int) : (stepS X m).length ≤ X.length + 1 ∧ 1 ≤ (stepS X m).length := by
  unfold stepS
  split
  · split
    · rw [List.length_append, List.length_dropLast]; simp
    · simp
  · simp
theorem spansL_len (L : List Int) : (spansL L).length ≤ L.length := by
  suffices h : ∀ n, (spansL (L.take n)).length ≤ n by
    have := h L.length
    rwa [List.take_length] at this
  intro n
  induction n with
  | zero => simp [spansL]
  | succ n ih =>
    rw [List.take_add_one]
    cases hx : L[n]? with
    | none => simp only [Option.toList_none, List.append_nil]; omega
    | some x =>
      rw [Option.toList_some, spansL_snoc]
      have := (stepS_len (spansL (L.take n)) x).1
      omega
theorem spansL_pos {L : List Int} (h : L ≠ []) : 1 ≤ (spansL L).length := by
  obtain ⟨P, x, rfl⟩ : ∃ P x, L = P ++ [x] := ⟨_, _, (List.dropLast_concat_getLast h).symm⟩
  rw [spansL_snoc]
  exact (stepS_len _ x).2
def tSps (X : List (Int × Int)) : List T := X.map fun p => tSp p.1 p.2
def rowS (X : List (Int × Int)) : AO := .row 2 ((tSps X).map .t)
theorem minsL_len (o : Ow) (ho : o.OK) (f : Fi) (hf : f.OK) : (minsL o f).length ≤ 1441 := by
  have h1 := ho.set_
  have h2 := hf.minute
  unfold minsL
  split
  · refine Nat.le_trans (List.length_filter_le _ _) ?_
    rw [rngI_len]; omega
  · refine Nat.le_trans (List.length_filter_le _ _) ?_
    simp
theorem minsL_bd {o : Ow} (ho : o.OK) {f : Fi} (hf : f.OK) {x : Int} (h : x ∈ minsL o f) : 0 ≤ x ∧ x ≤ 1440 := by
  have h1 := ho.set_
  have h2 := hf.minute
  unfold minsL at h
  split at h
  · have := mem_rngI.1 ((List.mem_filter.1 h).1); omega
  · have := (List.mem_filter.1 h).1
    rw [List.mem_singleton] at this
    omega
def spsE (l : List (Int × Int)) (e : Int) : Out := .ret (.tup [.t (if e = 0 then .slice 2 (tSps l) else .lit (.slice none 0 0)), .t (vi e)])
def specStopped (w : Wa) (i k : Int) : List (Int × Int) × Int := if w.ok then (if w.isF i && w.isO k then (match w.fs[i.toNat]?, w.os[k.toNat]? with
  | some f, some o => if f.stopped then (if minsL o f = [] then ([], 4) else (spansL (minsL o f), 0)) else ([], 11)
  | _, _ => ([], 0)) else ([], 2)) else ([], 1)
set_option maxRecDepth 8000 in
set_option maxHeartbeats 8000000 in
theorem Stopped_ok (w : Wa) (i k : Int) (hL : Lens w) : ACall Tryz.prog 11 [.t (tWa w), .t (vi i), .t (vi k)] [] (res (spsE (specStopped w i k).1 (specStopped w i k).2)) := by
  refine ACall.walkDM k11 ?_
  have hi := isFind_ok w i hL
  have hk := isOwner_ok w k hL
  have ho := open_ok w (w.isF i && w.isO k) hL
  unfold c11
  unfold tWa at hi hk ho ⊢
  unfold wa2 at hi hk ho ⊢
  simp only [go_sem, Nat.reduceEqDiff, Nat.reduceAdd]
  refine ACallL.quiet1 hi rfl rfl rfl ?_
  cases h1 : w.isF i
  · rw [h1, Bool.false_and] at ho
    simp only [go_sem, Nat.reduceEqDiff, Nat.reduceAdd, undef]
    cases hok : w.ok
    · rw [opnO_bad hok] at ho
      refine ACallL.fresh1 ho rfl ?_
      simp only [go_sem, Nat.reduceEqDiff]
      refine finDML_pan 0 rfl rfl ((dfr_pan b47 rfl).mono ?_)
      rintro σ' rfl
      exact ⟨_, rfl, [], rfl, rfl, res_mk (by unfold specStopped; rw [hok]; rfl)⟩
    · rw [opnO_rng hok] at ho
      refine ACallL.fresh1 ho rfl ?_
      simp only [go_sem, Nat.reduceEqDiff]
      refine finDML_pan 0 rfl rfl ((dfr_pan b47 rfl).mono ?_)
      rintro σ' rfl
      exact ⟨_, rfl, [], rfl, rfl, res_mk (by unfold specStopped; rw [hok, h1]; rfl)⟩
  rw [h1, Bool.true_and] at ho
  simp only [go_sem, Nat.reduceEqDiff, Nat.reduceAdd, beq_self_eq_true]
  refine ACallL.quiet1 hk rfl rfl rfl ?_
  simp only [go_sem, Nat.reduceEqDiff, Nat.reduceAdd]
  cases hok : w.ok
  · rw [opnO_bad hok] at ho
    refine ACallL.fresh1 ho rfl ?_
    simp only [go_sem, Nat.reduceEqDiff]
    refine finDML_pan 0 rfl rfl ((dfr_pan b47 rfl).mono ?_)
    rintro σ' rfl
    exact ⟨_, rfl, [], rfl, rfl, res_mk (by unfold specStopped; rw [hok]; rfl)⟩
  cases h2 : w.isO k
  · rw [h2, opnO_rng hok] at ho
    refine ACallL.fresh1 ho rfl ?_
    simp only [go_sem, Nat.reduceEqDiff]
    refine finDML_pan 0 rfl rfl ((dfr_pan b47 rfl).mono ?_)
    rintro σ' rfl
    exact ⟨_, rfl, [], rfl, rfl, res_mk (by unfold specStopped; rw [hok, h1, h2]; rfl)⟩
  rw [h2, opnO_ok hok] at ho
  obtain ⟨n, rfl, hn⟩ := isF_nat h1
  obtain ⟨k, rfl, hkn⟩ := isO_nat h2
  have hw := (w.ok_iff).1 hok
  have hx : w.fs[n]? = some w.fs[n] := List.getElem?_eq_getElem hn
  have hff := hw.fs _ (List.getElem_mem hn)
  have hxo : w.os[k]? = some w.os[k] := List.getElem?_eq_getElem hkn
  have hoo := hw.os _ (List.getElem_mem hkn)
  have hs : specStopped w n k = if w.fs[n].stopped then (if minsL w.os[k] w.fs[n] = [] then ([], 4) else (spansL (minsL w.os[k] w.fs[n]), 0)) else ([], 11) := by
    unfold specStopped
    rw [hok, if_pos rfl, h1, h2, Bool.true_and, if_pos rfl, Int.toNat_natCast, Int.toNat_natCast, hx, hxo]
  generalize w.fs[n] = f at *
  generalize w.os[k] = o at *
  have hto : tOw o = .agg [vi o.set_, vi o.lo, vi o.hi, vi o.huts] := rfl
  have htf : tFi f = .agg [vi f.hut, vi f.minute, vi f.lo, vi f.hi, vb f.stopped] := rfl
  have hn0 : ((n : Int) < 0) = False := eq_false (by omega)
  have hk0 : ((k : Int) < 0) = False := eq_false (by omega)
  have bad := @must_ok false 11
  have good := @must_ok true 11
  refine ACallL.fresh1 ho rfl ?_
  cases hc : f.stopped
  · rw [hc, if_neg (by decide)] at hs
    simp only [tTab, go_sem, Nat.reduceEqDiff, Nat.reduceAdd, undef, beq_self_eq_true, htf, hx, List.getElem?_map, Option.map_some, hc]
    refine ACallL.quiet1 bad rfl rfl rfl ?_
    simp only [go_sem, Nat.reduceEqDiff, Nat.reduceAdd]
    refine finDML_pan 0 rfl rfl ((dfr_pan b47 rfl).mono ?_)
    rintro σ' rfl
    exact ⟨_, rfl, [], rfl, rfl, res_mk (by rw [hs]; rfl)⟩
  rw [hc, if_pos rfl] at hs
  have hfo := foundOf_ok f
  have hst := stMin_ok o f
  have hgen := st_gen o hoo f hff hc
  have hlen := minsL_len o hoo f hff
  have hbd := fun x => @minsL_bd o hoo f hff x
  rw [htf] at hfo hst
  rw [hto] at hst
  rw [hc] at hfo hst
  simp only [if_true] at hfo
  unfold tFi tOw at hgen
  rw [hc] at hgen
  generalize minsL o f = L at *
  have hm1 : mfind [(109, 127), (111, 130)] 109 = some 127 := rfl
  have hm2 : mfind [(109, 127), (111, 130)] 111 = some 130 := rfl
  simp only [tTab, go_sem, Nat.reduceEqDiff, Nat.reduceAdd, undef, beq_self_eq_true, htf, hx, List.getElem?_map, Option.map_some, hc]
  refine ACallL.quiet1 good rfl rfl rfl ?_
  simp only [mustO, go_sem, Nat.reduceEqDiff, Nat.reduceAdd, hto, hxo, List.getElem?_map, Option.map_some, if_true]
  refine ACallL.quiet1 hfo rfl rfl rfl ?_
  simp only [go_sem, Nat.reduceEqDiff, Nat.reduceAdd, hto, hxo, List.getElem?_map, Option.map_some, hm2, Option.isSome_some, if_true]
  refine ACallL.fresh1 hst rfl ?_
  simp only [stF, hto, htf, hc, hxo, List.getElem?_map, Option.map_some, hm2, Option.isSome_some, if_true, go_sem, Nat.reduceEqDiff, Nat.reduceAdd]
  refine awpL_gcpS (s' := { env := [(6, .t (.lit (.slice none 0 0))), (7, .ptr 0 0), (10, .ptr 1 0), (49, .t (.fn (.func 131) [] [.ptr (.agg [vi o.set_, vi o.lo, vi o.hi, vi o.huts]) 0, .ptr (.agg [vi f.hut, vi f.minute, vi f.lo, vi f.hi, vb true]) 0]))], σ := [.cells [.t (vi 0)], .cells [.loc 2 0], rowS []], df := [.call 47 [.ptr 0 0]] }) ((Sub.ghostC 3 0 2 (by decide) rfl rfl).trans (Sub.gcE [1, 3, 4] [6, 7, 10, 49] (St.gc_mk rfl rfl rfl rfl) rfl rfl)) ?_
  simp only [go_sem]
  refine awpL_rangeS (f := 131) (fs := []) (cs := [.ptr (.agg [vi o.set_, vi o.lo, vi o.hi, vi o.huts]) 0, .ptr (.agg [vi f.hut, vi f.minute, vi f.lo, vi f.hi, vb true]) 0]) (vals L) (fun j σ => σ = [.cells [.t (vi 0)], .cells [.loc 2 (spansL (L.take j)).length], rowS (spansL (L.take j))]) (fun _ _ => False) [0, 1, 2] [6, 7, 10]
    [(6, .t (.lit (.slice none 0 0))), (7, .ptr 0 0), (10, .ptr 1 0)] [.call 47 [.ptr 0 0]] rfl rfl rfl rfl hgen rfl rfl rfl ?_ ?_ (fun _ _ h => h.elim)
  · rintro l j v σ hv rfl
    rw [List.getElem?_map] at hv
    cases hxj : L[j]? with
    | none => rw [hxj] at hv; cases hv
    | some x =>
      rw [hxj] at hv
      cases hv
      have hjl := (List.getElem?_eq_some_iff.1 hxj).1
      have hxb := hbd x (List.mem_of_getElem? hxj)
      have htk : L.take (j + 1) = L.take j ++ [x] := by rw [List.take_add_one, hxj]; rfl
      have hlj : (spansL (L.take j)).length ≤ j := by
        have := spansL_len (L.take j)
        rw [List.length_take] at this
        omega
      rw [htk, spansL_snoc]
      generalize spansL (L.take j) = X at *
      have w1 : IntKind.i64.wrap (x - 1) = x - 1 := wrap_id (by omega) (by omega)
      rcases List.eq_nil_or_concat X with rfl | ⟨Y, p, rfl⟩
      · have wm : decide (IntKind.i64.wrap (-1) ≥ 0) = false := by decide
        simp only [go_sem, Nat.reduceEqDiff, Nat.reduceAdd, Nat.reduceMul, Nat.reduceLT, Nat.reduceLeDiff, Int.reduceNeg, Int.reduceSub, undef, T.ofV, rowS, tSps, List.map_nil, List.length_nil, wm]
        exact ⟨by decide, [0, 1, 2], rfl, rfl, rfl⟩
      · rw [List.concat_eq_append] at *
        have hl : (Y ++ [p]).length = Y.length + 1 := by simp
        have w2 : IntKind.i64.wrap (((Y.length + 1 : Nat) : Int) - 1) = (Y.length : Int) := by rw [wrap_id (by omega) (by omega)]; omega
        have wg : decide ((Y.length : Int) ≥ 0) = true := decide_eq_true (by omega)
        have wn : ((Y.length : Int) < 0) = False := eq_false (by omega)
        have hlX : (tSps (Y ++ [p])).length = Y.length + 1 := by unfold tSps; rw [List.length_map, hl]
        have hget : (tSps (Y ++ [p]))[Y.length]? = some (.agg [vi p.1, vi p.2]) := by unfold tSps; simp [tSp]
        have x1 : (Y.length + 1 + 1 ≤ maxLen) = True := eq_true (by unfold maxLen; omega)
        have x2 : ((Y.length + 1 + 1) * 16 ≤ 140737488355328) = True := eq_true (by omega)
        have x0 : ((Y.length : Int) < ((Y.length + 1 : Nat) : Int)) = True := eq_true (by omega)
        have x3 : Y.length < Y.length + 1 := by omega
        have hgl : (Y ++ [p]).getLast? = some p := by simp
        have hdl : (Y ++ [p]).dropLast = Y := by simp
        rw [hl]
        cases hb : p.2 == x - 1
        · have hne : p.2 ≠ x - 1 := fun e => by rw [e] at hb; simp at hb
          have hst : stepS (Y ++ [p]) x = Y ++ [p] ++ [(x, x)] := by unfold stepS; rw [hgl]; simp only [if_neg hne]
          have happ : (tSps (Y ++ [p])).map E.t ++ [E.t (.agg [vi x, vi x])] = (tSps (Y ++ [p] ++ [(x, x)])).map E.t := by simp [tSps, tSp]
          have hl2 : (Y ++ [p] ++ [(x, x)]).length = Y.length + 1 + 1 := by simp
          rw [hst, hl2]
          simp only [go_sem, Nat.reduceEqDiff, Nat.reduceAdd, Nat.reduceLT, Nat.reduceLeDiff, decide_true, undef, beq_self_eq_true, T.ofV, rowS, List.length_map, List.getElem?_map, Option.map_some, hlX, hget, w1, w2, x0, hb, x1, x2, happ]
          refine ⟨[0, 1, 2], rfl, rfl, ?_⟩
          unfold σgc
          simp only [List.map_cons, List.map_nil, List.getD_cons_zero, List.getD_cons_succ, AO.gc, gc_row]
          rfl
        · have he : p.2 = x - 1 := by simpa using hb
          have hst : stepS (Y ++ [p]) x = Y ++ [(p.1, x)] := by unfold stepS; rw [hgl]; simp only [if_pos he, hdl]
          have hl2 : (Y ++ [(p.1, x)]).length = Y.length + 1 := by simp
          rw [hst, hl2]
          have hset : ((tSps (Y ++ [p])).map E.t).set Y.length (E.t (.agg [vi p.1, .lit (.int .i64 x)])) = (tSps (Y ++ [(p.1, x)])).map E.t := by simp [tSps, tSp]
          simp only [go_sem, Nat.reduceEqDiff, Nat.reduceAdd, Bool.not_false, decide_true, undef, beq_self_eq_true, T.ofV, rowS, List.length_map, List.getElem?_map, Option.map_some, hlX, hget, w1, w2, x0, hb, hset]
          refine ⟨[0, 1, 2], rfl, rfl, ?_⟩
          unfold σgc
          simp only [List.map_cons, List.map_nil, List.getD_cons_zero, List.getD_cons_succ, AO.gc, gc_row]
          rfl
  · rintro σ rfl
    rw [List.length_map, List.take_length]
    have bad4 := @must_ok false 4
    have good4 := @must_ok true 4
    by_cases he : L = []
    · subst he
      rw [if_pos rfl] at hs
      have hz : spansL [] = [] := rfl
      rw [hz]
      simp only [go_sem, Nat.reduceEqDiff, Int.reduceGT, decide_false, rowS, tSps, List.map_nil, List.length_nil]
      refine ACallL.quiet1 bad4 rfl rfl rfl ?_
      simp only [go_sem, Nat.reduceEqDiff, undef]
      refine finDML_pan 1 rfl rfl ((dfr_pan b47 rfl).mono ?_)
      rintro σ' rfl
      exact ⟨_, rfl, [], rfl, rfl, res_mk (by rw [hs]; rfl)⟩
    · rw [if_neg he] at hs
      have hp := spansL_pos he
      generalize spansL L = X at *
      have hg : decide ((X.length : Int) > 0) = true := decide_eq_true (by omega)
      have hlX : (tSps X).length = X.length := by unfold tSps; rw [List.length_map]
      simp only [go_sem, Nat.reduceEqDiff, rowS, List.length_map, hlX, hg]
      refine ACallL.quiet1 good4 rfl rfl rfl ?_
      simp only [go_sem, Nat.reduceEqDiff, undef]
      refine finDML_ret 1 rfl rfl ((dfr_none b47 rfl).mono ?_)
      rintro σ' rfl
      refine ⟨_, rfl, [], rfl, rfl, res_mk ?_⟩
      rw [hs]
      refine congrArg Out.ret ?_
      have key : ∀ σ : List AO, σ[2]? = some (rowS X) → E.gc [] σ 12 (.tup [.loc 2 X.length, .t (vi 0)]) = .tup [.t (.slice 2 (tSps X)), .t (vi 0)] := fun σ h => by
        rw [E.gc]
        simp only [List.map_cons, List.map_nil]
        rw [gc_loc (n := 9) rfl h (by unfold tSps; rw [List.length_map])]
        rfl
      exact key _ rfl
end Go.Proofs.YtnmmhkkmejbckaaGreatDoor
