/- Proved here: laws that the statements need (RaI, RaC1p, RaJ, RaK, RaL, RaM, RaN). No conditions but those that each law states. -/
import Derived.Test.YtcpkkjbkbdmopaaDC
import Derived.Test.YtcpkkjbkbdmopaaDD
import Derived.Test.YtcpkkjbkbdmopaaFL
import Derived.Test.YtcpkkjbkbdmopaaFP
import Derived.Test.YtcpkkjbkbdmopaaProg

set_option linter.unusedSimpArgs false
set_option linter.unusedVariables false

/- How many towels are at hand. -/
namespace Go.Proofs.Ytcpkkjbkbdmopaa
open Go Go.Ab

theorem sum_bd : ∀ (l : List Int), (∀ x ∈ l, 0 ≤ x ∧ x ≤ 4) → 0 ≤ l.sum ∧ l.sum ≤ 4 * l.length
  | [], _ => by simp
  | x :: l, h => by
    have ih := sum_bd l fun y hy => h y (List.mem_cons_of_mem _ hy)
    have hx := h x List.mem_cons_self
    simp only [List.sum_cons, List.length_cons]
    omega
theorem hullOf_bd {l : List Int} (h : l ≠ []) {a b : Int} (hb : ∀ x ∈ l, a ≤ x ∧ x ≤ b) (ha : -1073741824 ≤ a) (hb2 : b ≤ 1073741824) : (hullOf l).1 ∈ l ∧ (hullOf l).2 ∈ l ∧ (∀ x ∈ l, (hullOf l).1 ≤ x ∧ x ≤ (hullOf l).2) := by
  obtain ⟨x, hx⟩ := List.exists_mem_of_ne_nil l h
  have bx := hb x hx
  obtain ⟨m1, m2⟩ := foldl_min_le l 1073741824
  obtain ⟨M1, M2⟩ := foldl_max_ge l (-1073741824)
  refine ⟨?_, ?_, fun y hy => ⟨m2 y hy, M2 y hy⟩⟩
  · rcases foldl_min_mem l 1073741824 with h1 | h1
    · have := m2 x hx
      rw [h1] at this
      have e : x = 1073741824 := by omega
      unfold hullOf
      rw [h1, ← e]
      exact hx
    · exact h1
  · rcases foldl_max_mem l (-1073741824) with h1 | h1
    · have := M2 x hx
      rw [h1] at this
      have e : x = -1073741824 := by omega
      unfold hullOf
      rw [h1, ← e]
      exact hx
    · exact h1
theorem truths_ne {t : Tw} (h : isT t = true) : truthsA t (-1) 0 0 ≠ [] := by
  intro e
  unfold isT at h
  rw [e] at h
  simp at h
theorem tot_bd {t : Tw} (ht : t.OK) : ∀ x ∈ (truthsA t (-1) 0 0).map fun l => totS (sumT t.bs l), 0 ≤ x ∧ x ≤ 24 := by
  intro x hx
  obtain ⟨l, hl, rfl⟩ := List.mem_map.1 hx
  obtain ⟨h1, h2⟩ := truthsA_mem ht hl
  have h3 := sum_bd l h2
  have := ht.nb
  show 0 ≤ totS (sumT t.bs l) ∧ totS (sumT t.bs l) ≤ 24
  rw [totS_sumT ht l h1]
  omega
theorem Ra.all_bd {r : Ra} (hr : r.OK) (hT : isT r.tw = true) : 0 ≤ r.all.1 ∧ r.all.1 ≤ r.all.2 ∧ r.all.2 ≤ 24 := by
  have hb := tot_bd hr.tw
  obtain ⟨h1, h2, h3⟩ := hullOf_bd (l := (truthsA r.tw (-1) 0 0).map fun l => totS (sumT r.tw.bs l)) (by simpa using truths_ne hT) hb (by decide) (by decide)
  have a1 := hb _ h1
  have a2 := hb _ h2
  have a3 := (h3 _ h1).2
  exact ⟨a1.1, a3, a2.2⟩
theorem leftT_bd (t : Ln → Nat) (hour : Nat) : ∀ (ls : List Ln), (∀ l ∈ ls, 1 ≤ l.many ∧ l.many ≤ 6) → 0 ≤ leftT t ls hour ∧ leftT t ls hour ≤ 6 * ls.length
  | [], _ => by simp [leftT]
  | l :: ls, h => by
    have ih := leftT_bd t hour ls fun x hx => h x (List.mem_cons_of_mem _ hx)
    have hl := h l List.mem_cons_self
    unfold leftT at ih ⊢
    rw [List.filter_cons]
    split
    · simp only [List.map_cons, List.sum_cons, List.length_cons]; omega
    · simp only [List.length_cons]; omega
theorem Ra.left_bd {r : Ra} (hr : r.OK) (foul : Bool) (hour : Nat) : 0 ≤ r.left foul hour ∧ r.left foul hour ≤ 24 := by
  have := leftT_bd (r.tm foul) hour r.lines fun l hl => by have := hr.ln l hl; omega
  have := hr.nl
  unfold Ra.left
  omega
theorem leftT_mono {t t' : Ln → Nat} {hour : Nat} : ∀ (ls : List Ln), (∀ l ∈ ls, 1 ≤ l.many) → (∀ l ∈ ls, t l ≤ t' l) → leftT t ls hour ≤ leftT t' ls hour
  | [], _, _ => by simp [leftT]
  | l :: ls, h, ht => by
    have ih := leftT_mono (t := t) (t' := t') (hour := hour) ls (fun x hx => h x (List.mem_cons_of_mem _ hx)) fun x hx => ht x (List.mem_cons_of_mem _ hx)
    have hl := h l List.mem_cons_self
    have hlt := ht l List.mem_cons_self
    unfold leftT at ih ⊢
    rw [List.filter_cons, List.filter_cons]
    by_cases h1 : hour < t l
    · rw [if_pos (by simpa using h1), if_pos (by simp; omega)]
      simp only [List.map_cons, List.sum_cons]; omega
    · rw [if_neg (by simpa using h1)]
      split
      · simp only [List.map_cons, List.sum_cons]; omega
      · exact ih
theorem dr_mono {S R R' h : Nat} (hR : R.testBit h = true → R'.testBit h = true) : dr S R' h ≤ dr S R h := by
  unfold dr
  cases h1 : R.testBit h
  · split
    · exact Nat.zero_le _
    · exact Nat.le_refl _
  · rw [if_pos (hR h1)]; exact Nat.zero_le _
theorem Ra.foul_le (r : Ra) (h : Nat) : r.f true h ≤ r.f false h := dr_mono fun hb => by
  show (r.R ||| r.Pe).testBit h = true
  rw [Nat.testBit_or]
  have : r.R.testBit h = true := hb
  rw [this]; rfl
theorem Ra.tm_le {r : Ra} (hr : r.OK) {l : Ln} (hl : l ∈ r.lines) : r.tm false l ≤ r.tm true l := by
  have := hr.ln l hl
  obtain ⟨_, h2, _⟩ := hr.H
  refine tm_mono h2 (by unfold Ln.wet; simp; omega) (fun h _ => r.foul_le h) (Nat.le_refl _) (by unfold Ln.wet; simp; omega)
theorem Ra.left_le {r : Ra} (hr : r.OK) (hour : Nat) : r.left false hour ≤ r.left true hour := leftT_mono r.lines (fun l hl => (hr.ln l hl).1) fun l hl => r.tm_le hr hl
theorem Ra.ready_bd {r : Ra} (hr : r.OK) (hT : isT r.tw = true) (hour : Nat) : -48 ≤ (r.ready hour).1 ∧ (r.ready hour).1 ≤ (r.ready hour).2 ∧ (r.ready hour).2 ≤ 60 := by
  have h1 := r.all_bd hr hT
  have h2 := r.left_bd hr true hour
  have h3 := r.left_bd hr false hour
  have h4 := r.left_le hr hour
  have h5 := hr.stock
  unfold Ra.ready
  simp only
  omega

set_option maxRecDepth 8000 in
set_option maxHeartbeats 4000000 in
theorem ready_ok (r : Ra) (hr : r.OK) (hour : Nat) (hh : hour ≤ r.H) : ACall Try.prog 50 [.t (tRa r), .t (vi hour)] [] (res (if isT r.tw then .ret (.t (tS (r.ready hour))) else .pan (stp1 10))) := by
  refine ACall.walk k50 ?_
  have hall := All_ok r.tw
  have hsp : specAll r.tw = if isT r.tw then (r.all, 0) else ((0, 0), 10) := by
    unfold specAll
    rw [(r.tw.ok_iff).2 hr.tw]
    rfl
  rw [hsp] at hall
  have hwet := wet_ok r hr hour hh
  unfold c50
  cases hT : isT r.tw
  · rw [hT] at hall
    unfold tRa
    unfold tw3 at hall
    unfold tw3 ra7
    simp only [go_sem, Nat.reduceEqDiff, Nat.reduceAdd, Nat.reduceLeDiff]
    refine ACallL.fresh1 hall rfl ?_
    simp only [spanE, tS, go_sem, Nat.reduceEqDiff, Nat.reduceAdd, Int.reduceBEq, undef]
    refine ACallL.quiet1 (must_ok false 10) rfl rfl rfl ?_
    simp only [go_sem, Nat.reduceEqDiff, Nat.reduceAdd]
    exact finL_pan [] ⟨rfl, rfl, rfl, rfl, res_mk rfl⟩
  rw [hT] at hall
  have hb := r.all_bd hr hT
  have hl1 := r.left_bd hr true hour
  have hl0 := r.left_bd hr false hour
  have hs := hr.stock
  have hrd : r.ready hour = (r.stock - (r.all.2 + r.left true hour), r.stock - (r.all.1 + r.left false hour)) := rfl
  rw [hrd]
  have hw : r.wet hour = (r.left false hour, r.left true hour) := rfl
  rw [hw] at hwet
  generalize r.left false hour = L0 at *
  generalize r.left true hour = L1 at *
  generalize r.all = A at *
  obtain ⟨A0, A1⟩ := A
  simp only at hb hall ⊢
  have s1 := qsum_ok [A1, L1] (by simp) (by intro x hx; simp at hx; omega)
  have s0 := qsum_ok [A0, L0] (by simp) (by intro x hx; simp at hx; omega)
  have e1 : [A1, L1].sum = A1 + L1 := by simp
  have e0 : [A0, L0].sum = A0 + L0 := by simp
  rw [e1] at s1
  rw [e0] at s0
  simp only [List.map_cons, List.map_nil] at s1 s0
  have w1 : IntKind.i64.wrap (r.stock - (A1 + L1)) = r.stock - (A1 + L1) := wrap_id (by omega) (by omega)
  have w0 : IntKind.i64.wrap (r.stock - (A0 + L0)) = r.stock - (A0 + L0) := wrap_id (by omega) (by omega)
  unfold tRa at hwet ⊢
  unfold tw3 at hall
  unfold tw3 ra7 at hwet ⊢
  simp only [List.cons_append, List.nil_append] at hwet
  simp only [go_sem, Nat.reduceEqDiff, Nat.reduceAdd, Nat.reduceLeDiff]
  refine ACallL.fresh1 hall rfl ?_
  simp only [spanE, tS, go_sem, Nat.reduceEqDiff, Nat.reduceAdd, undef, beq_self_eq_true]
  refine ACallL.quiet1 (must_ok true 0) rfl rfl rfl ?_
  simp only [go_sem, Nat.reduceEqDiff, Nat.reduceAdd]
  refine ACallL.fresh1 hwet rfl ?_
  simp only [tS, go_sem, Nat.reduceEqDiff, Nat.reduceAdd, Nat.reduceLeDiff, undef]
  repeat' (first
    | exact finL_ret [] ⟨rfl, rfl, rfl, rfl, _, rfl, ret_mk rfl⟩
    | refine AndL.mk ?_ ?_
    | refine ACallL.quiet1 s1 rfl rfl rfl ?_
    | refine ACallL.quiet1 s0 rfl rfl rfl ?_
    | simp only [go_sem, Nat.reduceEqDiff, Nat.reduceAdd, Nat.reduceLT, Nat.reduceLeDiff, undef, w1, w0])
end Go.Proofs.Ytcpkkjbkbdmopaa

/- Compiled code of functions, printed by program; each is checked to be the program's. No conditions. -/
namespace Go.Proofs.Ytcpkkjbkbdmopaa
open Go Go.Ab
/-- dipworks/rail.Ready -/
def c14 : AC :=
 .seq (.reg [⟨(some 2), none, .box (.tmp 0)⟩,
 ⟨(some 4), none, .alloc [(.int .i64 0), (.int .i64 0)]⟩,
 ⟨(some 5), none, .alloc [(.int .i64 0)]⟩])
 (.seq (.reg [⟨(some 7), none, .mkfn (.func 46) [] [(.tmp 5)]⟩,
 ⟨none, none, .deferF (.tmp 7) []⟩])
 (.seq (.draw (.step ⟨(some 8), none, .load true 10 (.tmp 2)⟩ (
 .step ⟨(some 9), none, .load true 10 (.tmp 2)⟩ (
 .step ⟨(some 10), none, .mov (.tmp 1)⟩ (
 .ev ⟨(some 11), none, .call (.fn 49) [(.tmp 9), (.tmp 10)]⟩ [⟨(some 8), none, .load true 10 (.tmp 2)⟩] (
 .ev ⟨(some 12), none, .call (.fn 48) [(.tmp 8), (.tmp 11)]⟩ [⟨(some 9), none, .load true 10 (.tmp 2)⟩] (
 .done)
 (.stop))
 (.stop))))))
 (.seq (.reg [⟨(some 13), none, .load true 10 (.tmp 2)⟩,
 ⟨(some 14), none, .mov (.tmp 1)⟩,
 ⟨(some 15), none, .call (.fn 50) [(.tmp 13), (.tmp 14)]⟩,
 ⟨(some 6), none, .alloc [(.int .i64 0), (.int .i64 0)]⟩,
 ⟨none, none, .store 2 (.tmp 6) (.tmp 15)⟩])
 (.seq (.reg [⟨(some 16), none, .faddr 0 (.tmp 6)⟩,
 ⟨(some 17), none, .load false 1 (.tmp 16)⟩,
 ⟨(some 18), none, .mxmn true (.lit (.int .i64 0)) [(.tmp 17)]⟩,
 ⟨(some 19), none, .faddr 1 (.tmp 6)⟩,
 ⟨(some 20), none, .load false 1 (.tmp 19)⟩,
 ⟨(some 21), none, .mxmn true (.lit (.int .i64 0)) [(.tmp 20)]⟩,
 ⟨(some 22), none, .build [(.int .i64 0), (.int .i64 0)] [(0, 1, (.tmp 18)), (1, 1, (.tmp 21))]⟩,
 ⟨none, none, .store 2 (.tmp 4) (.tmp 22)⟩,
 ⟨none, none, .store 1 (.tmp 5) (.lit (.int .i64 0))⟩])
 (.ret)))))
theorem k14 : FnC Try.prog 14 23 [4, 5] [] [.cell 4 true 2, .cell 5 false 1] c14 2 := ⟨Try.f14, _, Try.func14, rfl, by decide, rfl, by decide, by kernel_rfl, by kernel_rfl⟩
/-- dipworks/rail.Owes -/
def c20 : AC :=
 .seq (.reg [⟨(some 2), none, .box (.tmp 0)⟩,
 ⟨(some 4), none, .alloc [(.int .i64 0), (.int .i64 0)]⟩,
 ⟨(some 5), none, .alloc [(.int .i64 0)]⟩])
 (.seq (.reg [⟨(some 8), none, .mkfn (.func 65) [] [(.tmp 5)]⟩,
 ⟨none, none, .deferF (.tmp 8) []⟩])
 (.seq (.draw (.step ⟨(some 9), none, .load true 10 (.tmp 2)⟩ (
 .step ⟨(some 10), none, .mov (.tmp 1)⟩ (
 .step ⟨(some 11), none, .faddr 0 (.tmp 2)⟩ (
 .step ⟨(some 12), none, .faddr 0 (.tmp 11)⟩ (
 .step ⟨(some 13), none, .load false 1 (.tmp 12)⟩ (
 .step ⟨(some 14), none, .len (.tmp 13)⟩ (
 .step ⟨(some 15), none, .bin .sub (.tmp 14) (.lit (.int .i64 1))⟩ (
 .ev ⟨(some 16), none, .call (.fn 66) [(.tmp 10), (.lit (.int .i64 0)), (.tmp 15)]⟩ [⟨(some 14), none, .len (.tmp 13)⟩, ⟨(some 13), none, .load false 1 (.tmp 12)⟩, ⟨(some 12), none, .faddr 0 (.tmp 11)⟩, ⟨(some 11), none, .faddr 0 (.tmp 2)⟩, ⟨(some 9), none, .load true 10 (.tmp 2)⟩] (
 .ev ⟨(some 17), none, .call (.fn 48) [(.tmp 9), (.tmp 16)]⟩ [⟨(some 14), none, .len (.tmp 13)⟩, ⟨(some 13), none, .load false 1 (.tmp 12)⟩, ⟨(some 12), none, .faddr 0 (.tmp 11)⟩, ⟨(some 11), none, .faddr 0 (.tmp 2)⟩] (
 .done)
 (.stop))
 (.stop))))))))))
 (.seq (.reg [⟨(some 19), none, .faddr 0 (.tmp 2)⟩,
 ⟨(some 20), none, .load true 3 (.tmp 19)⟩,
 ⟨(some 21), none, .mov (.tmp 1)⟩,
 ⟨(some 22), none, .call (.fn 16) [(.tmp 20), (.tmp 21)]⟩,
 ⟨(some 18), none, .mov (.tmp 22)⟩,
 ⟨(some 23), none, .ext (.tmp 18) 0⟩,
 ⟨(some 24), none, .ext (.tmp 18) 1⟩,
 ⟨(some 6), none, .alloc [(.int .i64 0), (.int .i64 0)]⟩,
 ⟨none, none, .store 2 (.tmp 6) (.tmp 23)⟩,
 ⟨(some 7), none, .mov (.tmp 24)⟩])
 (.seq (.reg [⟨(some 25), none, .mov (.tmp 7)⟩,
 ⟨(some 26), none, .bin .eql (.tmp 25) (.lit (.int .i64 0))⟩,
 ⟨(some 27), none, .mov (.tmp 7)⟩,
 ⟨(some 28), none, .call (.fn 67) [(.tmp 26), (.tmp 27)]⟩])
 (.seq (.reg [⟨(some 29), none, .faddr 0 (.tmp 6)⟩,
 ⟨(some 30), none, .load false 1 (.tmp 29)⟩,
 ⟨(some 31), none, .faddr 9 (.tmp 2)⟩,
 ⟨(some 32), none, .load false 1 (.tmp 31)⟩,
 ⟨(some 33), none, .bin .mul (.tmp 30) (.tmp 32)⟩,
 ⟨(some 34), none, .faddr 1 (.tmp 6)⟩,
 ⟨(some 35), none, .load false 1 (.tmp 34)⟩,
 ⟨(some 36), none, .faddr 9 (.tmp 2)⟩,
 ⟨(some 37), none, .load false 1 (.tmp 36)⟩,
 ⟨(some 38), none, .bin .mul (.tmp 35) (.tmp 37)⟩,
 ⟨(some 39), none, .build [(.int .i64 0), (.int .i64 0)] [(0, 1, (.tmp 33)), (1, 1, (.tmp 38))]⟩,
 ⟨none, none, .store 2 (.tmp 4) (.tmp 39)⟩,
 ⟨none, none, .store 1 (.tmp 5) (.lit (.int .i64 0))⟩])
 (.ret))))))
theorem k20 : FnC Try.prog 20 40 [4, 5] [] [.cell 4 true 2, .cell 5 false 1] c20 2 := ⟨Try.f20, _, Try.func20, rfl, by decide, rfl, by decide, by kernel_rfl, by kernel_rfl⟩
/-- dipworks/rail.Dry -/
def c25 : AC :=
 .seq (.reg [⟨(some 2), none, .box (.tmp 0)⟩,
 ⟨(some 4), none, .alloc [(.int .i64 0), (.int .i64 0)]⟩,
 ⟨(some 5), none, .alloc [(.int .i64 0)]⟩])
 (.seq (.reg [⟨(some 10), none, .mkfn (.func 74) [] [(.tmp 5)]⟩,
 ⟨none, none, .deferF (.tmp 10) []⟩])
 (.seq (.draw (.step ⟨(some 11), none, .load true 10 (.tmp 2)⟩ (
 .step ⟨(some 12), none, .mov (.tmp 1)⟩ (
 .step ⟨(some 13), none, .faddr 8 (.tmp 2)⟩ (
 .step ⟨(some 14), none, .load false 1 (.tmp 13)⟩ (
 .step ⟨(some 15), none, .len (.tmp 14)⟩ (
 .step ⟨(some 16), none, .bin .sub (.tmp 15) (.lit (.int .i64 1))⟩ (
 .ev ⟨(some 17), none, .call (.fn 66) [(.tmp 12), (.lit (.int .i64 0)), (.tmp 16)]⟩ [⟨(some 15), none, .len (.tmp 14)⟩, ⟨(some 14), none, .load false 1 (.tmp 13)⟩, ⟨(some 13), none, .faddr 8 (.tmp 2)⟩, ⟨(some 11), none, .load true 10 (.tmp 2)⟩] (
 .ev ⟨(some 18), none, .call (.fn 48) [(.tmp 11), (.tmp 17)]⟩ [⟨(some 15), none, .len (.tmp 14)⟩, ⟨(some 14), none, .load false 1 (.tmp 13)⟩, ⟨(some 13), none, .faddr 8 (.tmp 2)⟩] (
 .done)
 (.stop))
 (.stop)))))))))
 (.seq (.draw (.step ⟨(some 20), none, .load true 10 (.tmp 2)⟩ (
 .step ⟨(some 21), none, .build [] []⟩ (
 .step ⟨(some 22), none, .mkif 111 (.tmp 21)⟩ (
 .step ⟨(some 24), none, .faddr 8 (.tmp 2)⟩ (
 .step ⟨(some 25), none, .load false 1 (.tmp 24)⟩ (
 .step ⟨(some 26), none, .mov (.tmp 1)⟩ (
 .step ⟨(some 27), none, .iaddr 4 (.tmp 25) (.tmp 26)⟩ (
 .step ⟨(some 28), none, .load true 4 (.tmp 27)⟩ (
 .ev ⟨(some 23), none, .call (.fn 75) [(.tmp 20), (.tmp 22)]⟩ [⟨(some 28), none, .load true 4 (.tmp 27)⟩, ⟨(some 27), none, .iaddr 4 (.tmp 25) (.tmp 26)⟩, ⟨(some 25), none, .load false 1 (.tmp 24)⟩, ⟨(some 24), none, .faddr 8 (.tmp 2)⟩] (
 .ev ⟨(some 29), none, .call (.fn 76) [(.tmp 23), (.tmp 28)]⟩ [⟨(some 27), none, .iaddr 4 (.tmp 25) (.tmp 26)⟩, ⟨(some 25), none, .load false 1 (.tmp 24)⟩, ⟨(some 24), none, .faddr 8 (.tmp 2)⟩, ⟨(some 20), none, .load true 10 (.tmp 2)⟩] (
 .step ⟨(some 19), none, .mov (.tmp 29)⟩ (
 .step ⟨(some 30), none, .ext (.tmp 19) 0⟩ (
 .step ⟨(some 31), none, .ext (.tmp 19) 1⟩ (
 .step ⟨(some 6), none, .mov (.tmp 30)⟩ (
 .step ⟨(some 7), none, .mov (.tmp 31)⟩ (
 .done))))))
 (.stop))
 (.stop)))))))))))
 (.seq (.draw (.step ⟨(some 33), none, .load true 10 (.tmp 2)⟩ (
 .step ⟨(some 34), none, .build [] []⟩ (
 .step ⟨(some 35), none, .mkif 114 (.tmp 34)⟩ (
 .step ⟨(some 37), none, .faddr 8 (.tmp 2)⟩ (
 .step ⟨(some 38), none, .load false 1 (.tmp 37)⟩ (
 .step ⟨(some 39), none, .mov (.tmp 1)⟩ (
 .step ⟨(some 40), none, .iaddr 4 (.tmp 38) (.tmp 39)⟩ (
 .step ⟨(some 41), none, .load true 4 (.tmp 40)⟩ (
 .ev ⟨(some 36), none, .call (.fn 75) [(.tmp 33), (.tmp 35)]⟩ [⟨(some 41), none, .load true 4 (.tmp 40)⟩, ⟨(some 40), none, .iaddr 4 (.tmp 38) (.tmp 39)⟩, ⟨(some 38), none, .load false 1 (.tmp 37)⟩, ⟨(some 37), none, .faddr 8 (.tmp 2)⟩] (
 .ev ⟨(some 42), none, .call (.fn 76) [(.tmp 36), (.tmp 41)]⟩ [⟨(some 40), none, .iaddr 4 (.tmp 38) (.tmp 39)⟩, ⟨(some 38), none, .load false 1 (.tmp 37)⟩, ⟨(some 37), none, .faddr 8 (.tmp 2)⟩, ⟨(some 33), none, .load true 10 (.tmp 2)⟩] (
 .step ⟨(some 32), none, .mov (.tmp 42)⟩ (
 .step ⟨(some 43), none, .ext (.tmp 32) 0⟩ (
 .step ⟨(some 44), none, .ext (.tmp 32) 1⟩ (
 .step ⟨(some 8), none, .mov (.tmp 43)⟩ (
 .step ⟨(some 9), none, .mov (.tmp 44)⟩ (
 .done))))))
 (.stop))
 (.stop)))))))))))
 (.seq (.reg [⟨(some 45), none, .mov (.tmp 9)⟩,
 ⟨(some 46), none, .call (.fn 67) [(.tmp 45), (.lit (.int .i64 11))]⟩])
 (.seq (.reg [⟨(some 47), none, .mov (.tmp 6)⟩,
 ⟨(some 48), none, .mov (.tmp 8)⟩,
 ⟨(some 49), none, .build [(.int .i64 0), (.int .i64 0)] [(0, 1, (.tmp 47)), (1, 1, (.tmp 48))]⟩,
 ⟨none, none, .store 2 (.tmp 4) (.tmp 49)⟩,
 ⟨none, none, .store 1 (.tmp 5) (.lit (.int .i64 0))⟩])
 (.ret)))))))
theorem k25 : FnC Try.prog 25 50 [4, 5] [] [.cell 4 true 2, .cell 5 false 1] c25 2 := ⟨Try.f25, _, Try.func25, rfl, by decide, rfl, by decide, by kernel_rfl, by kernel_rfl⟩
/-- dipworks/rail.Wet -/
def c27 : AC :=
 .seq (.reg [⟨(some 2), none, .box (.tmp 0)⟩,
 ⟨(some 4), none, .alloc [(.int .i64 0), (.int .i64 0)]⟩,
 ⟨(some 5), none, .alloc [(.int .i64 0)]⟩])
 (.seq (.reg [⟨(some 6), none, .mkfn (.func 82) [] [(.tmp 5)]⟩,
 ⟨none, none, .deferF (.tmp 6) []⟩])
 (.seq (.draw (.step ⟨(some 7), none, .load true 10 (.tmp 2)⟩ (
 .step ⟨(some 8), none, .load true 10 (.tmp 2)⟩ (
 .step ⟨(some 9), none, .mov (.tmp 1)⟩ (
 .ev ⟨(some 10), none, .call (.fn 49) [(.tmp 8), (.tmp 9)]⟩ [⟨(some 7), none, .load true 10 (.tmp 2)⟩] (
 .ev ⟨(some 11), none, .call (.fn 48) [(.tmp 7), (.tmp 10)]⟩ [⟨(some 8), none, .load true 10 (.tmp 2)⟩] (
 .done)
 (.stop))
 (.stop))))))
 (.seq (.reg [⟨(some 12), none, .load true 10 (.tmp 2)⟩,
 ⟨(some 13), none, .mov (.tmp 1)⟩,
 ⟨(some 14), none, .call (.fn 83) [(.tmp 12), (.tmp 13)]⟩,
 ⟨none, none, .store 2 (.tmp 4) (.tmp 14)⟩,
 ⟨none, none, .store 1 (.tmp 5) (.lit (.int .i64 0))⟩])
 (.ret))))
theorem k27 : FnC Try.prog 27 15 [4, 5] [] [.cell 4 true 2, .cell 5 false 1] c27 2 := ⟨Try.f27, _, Try.func27, rfl, by decide, rfl, by decide, by kernel_rfl, by kernel_rfl⟩
/-- dipworks/rail.Latest -/
def c29 : AC :=
 .seq (.reg [⟨(some 3), none, .box (.tmp 0)⟩,
 ⟨(some 4), none, .box (.tmp 1)⟩,
 ⟨(some 5), none, .box (.tmp 2)⟩,
 ⟨(some 6), none, .mov (.lit (.int .i64 0))⟩,
 ⟨(some 7), none, .alloc [(.int .i64 0)]⟩])
 (.seq (.reg [⟨(some 14), none, .mkfn (.func 86) [] [(.tmp 7)]⟩,
 ⟨none, none, .deferF (.tmp 14) []⟩])
 (.seq (.draw (.step ⟨(some 15), none, .load true 10 (.tmp 3)⟩ (
 .step ⟨(some 16), none, .load true 10 (.tmp 3)⟩ (
 .step ⟨(some 17), none, .load false 1 (.tmp 5)⟩ (
 .ev ⟨(some 18), none, .call (.fn 49) [(.tmp 16), (.tmp 17)]⟩ [⟨(some 15), none, .load true 10 (.tmp 3)⟩] (
 .step ⟨(some 19), none, .mov (.tmp 18)⟩ (
 .step ⟨(some 20), (some (19, true)), .load false 1 (.tmp 4)⟩ (
 .ev ⟨(some 21), (some (19, true)), .call (.fn 66) [(.tmp 20), (.lit (.int .i64 1)), (.lit (.int .i64 8))]⟩ [⟨(some 17), none, .load false 1 (.tmp 5)⟩, ⟨(some 16), none, .load true 10 (.tmp 3)⟩, ⟨(some 15), none, .load true 10 (.tmp 3)⟩] (
 .step ⟨(some 22), none, .pick (.tmp 19) (.tmp 21) (.lit (.bool false))⟩ (
 .ev ⟨(some 23), none, .call (.fn 48) [(.tmp 15), (.tmp 22)]⟩ [⟨(some 20), (some (19, true)), .load false 1 (.tmp 4)⟩, ⟨(some 17), none, .load false 1 (.tmp 5)⟩, ⟨(some 16), none, .load true 10 (.tmp 3)⟩] (
 .done)
 (.stop)))
 (.stop))))
 (.stop))))))
 (.seq (.reg [⟨(some 24), none, .load true 10 (.tmp 3)⟩,
 ⟨(some 25), none, .build [] []⟩,
 ⟨(some 26), none, .mkif 114 (.tmp 25)⟩,
 ⟨(some 27), none, .call (.fn 75) [(.tmp 24), (.tmp 26)]⟩,
 ⟨(some 8), none, .alloc [(.pointer none)]⟩,
 ⟨none, none, .store 1 (.tmp 8) (.tmp 27)⟩])
 (.seq (.seq (.gcp)
 (.reg [⟨(some 28), none, .load false 1 (.tmp 5)⟩,
 ⟨(some 29), none, .mks 1 8 (.int .i64 0) (.tmp 28) (.tmp 28)⟩,
 ⟨(some 9), none, .mov (.tmp 29)⟩]))
 (.seq (.seq (.reg [⟨(some 30), none, .mov (.tmp 9)⟩,
 ⟨(some 31), none, .len (.tmp 30)⟩,
 ⟨(some 32), none, .mov (.lit (.int .i64 0))⟩])
 (.block 0 (.loop (.seq (.reg [⟨(some 33), none, .bin .lss (.tmp 32) (.tmp 31)⟩])
 (.seq (.cond (.tmp 33) (.skip)
 (.exit 0))
 (.seq (.block 1 (.seq (.reg [⟨(some 34), none, .mov (.tmp 32)⟩,
 ⟨(some 10), none, .mov (.tmp 34)⟩])
 (.reg [⟨(some 35), none, .mov (.tmp 9)⟩,
 ⟨(some 36), none, .mov (.tmp 10)⟩,
 ⟨(some 37), none, .mov (.tmp 10)⟩,
 ⟨(some 38), none, .iaddr 1 (.tmp 35) (.tmp 36)⟩,
 ⟨none, none, .store 1 (.tmp 38) (.tmp 37)⟩])))
 (.reg [⟨(some 39), none, .bin .add (.tmp 32) (.lit (.int .i64 1))⟩,
 ⟨(some 32), none, .mov (.tmp 39)⟩])))))))
 (.seq (.reg [⟨(some 40), none, .mov (.tmp 9)⟩,
 ⟨(some 41), none, .len (.tmp 40)⟩,
 ⟨(some 42), none, .mks 1 8 (.int .i64 0) (.tmp 41) (.tmp 41)⟩,
 ⟨(some 11), none, .mov (.tmp 42)⟩])
 (.seq (.reg [⟨(some 43), none, .mov (.tmp 11)⟩,
 ⟨(some 44), none, .mov (.tmp 9)⟩,
 ⟨(some 45), none, .cpy 1 (.tmp 43) (.tmp 44)⟩])
 (.seq (.reg [⟨(some 46), none, .mov (.tmp 11)⟩,
 ⟨(some 47), none, .call (.fn 87) [(.tmp 46)]⟩])
 (.seq (.seq (.gcp)
 (.reg [⟨(some 49), none, .mov (.tmp 11)⟩,
 ⟨(some 50), none, .call (.fn 89) [(.tmp 49)]⟩,
 ⟨(some 51), none, .mkfn (.func 90) [] [(.tmp 8), (.tmp 5), (.tmp 4)]⟩,
 ⟨(some 52), none, .build [.nilFunc] [(0, 1, (.tmp 51))]⟩,
 ⟨(some 53), none, .call (.fn 88) [(.tmp 50), (.tmp 52)]⟩,
 ⟨(some 48), none, .mov (.tmp 53)⟩,
 ⟨(some 54), none, .ext (.tmp 48) 0⟩,
 ⟨(some 55), none, .ext (.tmp 48) 1⟩,
 ⟨(some 12), none, .mov (.tmp 54)⟩,
 ⟨(some 13), none, .mov (.tmp 55)⟩]))
 (.seq (.reg [⟨(some 56), none, .mov (.tmp 13)⟩,
 ⟨(some 57), none, .call (.fn 67) [(.tmp 56), (.lit (.int .i64 4))]⟩])
 (.seq (.reg [⟨(some 58), none, .mov (.tmp 12)⟩,
 ⟨(some 6), none, .mov (.tmp 58)⟩,
 ⟨none, none, .store 1 (.tmp 7) (.lit (.int .i64 0))⟩])
 (.ret))))))))))))
theorem k29 : FnC Try.prog 29 59 [6, 7] [4, 13] [.tmp 6, .cell 7 false 1] c29 3 := ⟨Try.f29, _, Try.func29, rfl, by decide, rfl, by decide, by kernel_rfl, by kernel_rfl⟩
/-- dipworks/rail.Enough -/
def c32 : AC :=
 .seq (.reg [⟨(some 3), none, .box (.tmp 0)⟩,
 ⟨(some 6), none, .mov (.lit (.int .i64 0))⟩,
 ⟨(some 7), none, .alloc [(.int .i64 0)]⟩])
 (.seq (.reg [⟨(some 9), none, .mkfn (.func 93) [] [(.tmp 7)]⟩,
 ⟨none, none, .deferF (.tmp 9) []⟩])
 (.seq (.draw (.step ⟨(some 10), none, .load true 10 (.tmp 3)⟩ (
 .step ⟨(some 11), none, .load true 10 (.tmp 3)⟩ (
 .step ⟨(some 12), none, .mov (.tmp 1)⟩ (
 .ev ⟨(some 13), none, .call (.fn 49) [(.tmp 11), (.tmp 12)]⟩ [⟨(some 10), none, .load true 10 (.tmp 3)⟩] (
 .step ⟨(some 14), none, .mov (.tmp 13)⟩ (
 .step ⟨(some 15), (some (14, true)), .mov (.tmp 2)⟩ (
 .ev ⟨(some 16), (some (14, true)), .call (.fn 94) [(.tmp 15)]⟩ [⟨(some 11), none, .load true 10 (.tmp 3)⟩, ⟨(some 10), none, .load true 10 (.tmp 3)⟩] (
 .step ⟨(some 17), none, .pick (.tmp 14) (.tmp 16) (.lit (.bool false))⟩ (
 .ev ⟨(some 18), none, .call (.fn 48) [(.tmp 10), (.tmp 17)]⟩ [⟨(some 11), none, .load true 10 (.tmp 3)⟩] (
 .done)
 (.stop)))
 (.stop))))
 (.stop))))))
 (.seq (.reg [⟨(some 19), none, .load true 10 (.tmp 3)⟩,
 ⟨(some 20), none, .mov (.tmp 1)⟩,
 ⟨(some 21), none, .call (.fn 50) [(.tmp 19), (.tmp 20)]⟩,
 ⟨(some 8), none, .alloc [(.int .i64 0), (.int .i64 0)]⟩,
 ⟨none, none, .store 2 (.tmp 8) (.tmp 21)⟩])
 (.seq (.block 0 (.seq (.reg [⟨(some 23), none, .mov (.tmp 2)⟩,
 ⟨(some 24), none, .bin .eql (.tmp 23) (.lit (.int .i64 0))⟩,
 ⟨(some 25), none, .mov (.tmp 24)⟩,
 ⟨(some 26), (some (25, false)), .faddr 0 (.tmp 8)⟩,
 ⟨(some 27), (some (25, false)), .load false 1 (.tmp 26)⟩,
 ⟨(some 28), (some (25, false)), .mov (.tmp 2)⟩,
 ⟨(some 29), (some (25, false)), .bin .geq (.tmp 27) (.tmp 28)⟩,
 ⟨(some 30), none, .pick (.tmp 25) (.lit (.bool true)) (.tmp 29)⟩,
 ⟨(some 22), none, .mov (.tmp 30)⟩])
 (.cond (.tmp 22) (.seq (.reg [⟨(some 6), none, .mov (.lit (.int .i64 2))⟩,
 ⟨none, none, .store 1 (.tmp 7) (.lit (.int .i64 0))⟩])
 (.ret))
 (.seq (.reg [⟨(some 32), none, .faddr 1 (.tmp 8)⟩,
 ⟨(some 33), none, .load false 1 (.tmp 32)⟩,
 ⟨(some 34), none, .mov (.tmp 2)⟩,
 ⟨(some 35), none, .bin .lss (.tmp 33) (.tmp 34)⟩,
 ⟨(some 31), none, .mov (.tmp 35)⟩])
 (.cond (.tmp 31) (.seq (.reg [⟨(some 6), none, .mov (.lit (.int .i64 0))⟩,
 ⟨none, none, .store 1 (.tmp 7) (.lit (.int .i64 0))⟩])
 (.ret))
 (.skip))))))
 (.seq (.reg [⟨(some 6), none, .mov (.lit (.int .i64 1))⟩,
 ⟨none, none, .store 1 (.tmp 7) (.lit (.int .i64 0))⟩])
 (.ret))))))
theorem k32 : FnC Try.prog 32 36 [6, 7] [] [.tmp 6, .cell 7 false 1] c32 3 := ⟨Try.f32, _, Try.func32, rfl, by decide, rfl, by decide, by kernel_rfl, by kernel_rfl⟩
/-- dipworks/rail.When -/
def c33 : AC :=
 .seq (.reg [⟨(some 2), none, .box (.tmp 0)⟩,
 ⟨(some 3), none, .box (.tmp 1)⟩,
 ⟨(some 4), none, .mov (.lit (.int .i64 0))⟩,
 ⟨(some 5), none, .alloc [(.int .i64 0)]⟩])
 (.seq (.reg [⟨(some 8), none, .mkfn (.func 95) [] [(.tmp 5)]⟩,
 ⟨none, none, .deferF (.tmp 8) []⟩])
 (.seq (.draw (.step ⟨(some 9), none, .load true 10 (.tmp 2)⟩ (
 .step ⟨(some 10), none, .load false 1 (.tmp 3)⟩ (
 .ev ⟨(some 11), none, .call (.fn 94) [(.tmp 10)]⟩ [⟨(some 9), none, .load true 10 (.tmp 2)⟩] (
 .ev ⟨(some 12), none, .call (.fn 48) [(.tmp 9), (.tmp 11)]⟩ [⟨(some 10), none, .load false 1 (.tmp 3)⟩] (
 .done)
 (.stop))
 (.stop)))))
 (.seq (.seq (.gcp)
 (.reg [⟨(some 14), none, .load true 10 (.tmp 2)⟩,
 ⟨(some 15), none, .build [] []⟩,
 ⟨(some 16), none, .mkif 114 (.tmp 15)⟩,
 ⟨(some 17), none, .call (.fn 75) [(.tmp 14), (.tmp 16)]⟩,
 ⟨(some 18), none, .call (.fn 96) [(.tmp 17), (.lit (.int .i64 0))]⟩,
 ⟨(some 19), none, .mkfn (.func 97) [] [(.tmp 2), (.tmp 3)]⟩,
 ⟨(some 20), none, .build [.nilFunc] [(0, 1, (.tmp 19))]⟩,
 ⟨(some 21), none, .call (.fn 88) [(.tmp 18), (.tmp 20)]⟩,
 ⟨(some 13), none, .mov (.tmp 21)⟩,
 ⟨(some 22), none, .ext (.tmp 13) 0⟩,
 ⟨(some 23), none, .ext (.tmp 13) 1⟩,
 ⟨(some 6), none, .mov (.tmp 22)⟩,
 ⟨(some 7), none, .mov (.tmp 23)⟩]))
 (.seq (.reg [⟨(some 24), none, .mov (.tmp 7)⟩,
 ⟨(some 25), none, .call (.fn 67) [(.tmp 24), (.lit (.int .i64 4))]⟩])
 (.seq (.reg [⟨(some 26), none, .mov (.tmp 6)⟩,
 ⟨(some 4), none, .mov (.tmp 26)⟩,
 ⟨none, none, .store 1 (.tmp 5) (.lit (.int .i64 0))⟩])
 (.ret))))))
theorem k33 : FnC Try.prog 33 27 [4, 5] [3] [.tmp 4, .cell 5 false 1] c33 2 := ⟨Try.f33, _, Try.func33, rfl, by decide, rfl, by decide, by kernel_rfl, by kernel_rfl⟩
/-- dipworks/rail.Buy -/
def c34 : AC :=
 .seq (.reg [⟨(some 3), none, .box (.tmp 0)⟩,
 ⟨(some 6), none, .mov (.lit (.int .i64 0))⟩,
 ⟨(some 7), none, .alloc [(.int .i64 0)]⟩])
 (.seq (.reg [⟨(some 9), none, .mkfn (.func 98) [] [(.tmp 7)]⟩,
 ⟨none, none, .deferF (.tmp 9) []⟩])
 (.seq (.draw (.step ⟨(some 10), none, .load true 10 (.tmp 3)⟩ (
 .step ⟨(some 11), none, .load true 10 (.tmp 3)⟩ (
 .step ⟨(some 12), none, .mov (.tmp 1)⟩ (
 .ev ⟨(some 13), none, .call (.fn 49) [(.tmp 11), (.tmp 12)]⟩ [⟨(some 10), none, .load true 10 (.tmp 3)⟩] (
 .step ⟨(some 14), none, .mov (.tmp 13)⟩ (
 .step ⟨(some 15), (some (14, true)), .mov (.tmp 2)⟩ (
 .ev ⟨(some 16), (some (14, true)), .call (.fn 94) [(.tmp 15)]⟩ [⟨(some 11), none, .load true 10 (.tmp 3)⟩, ⟨(some 10), none, .load true 10 (.tmp 3)⟩] (
 .step ⟨(some 17), none, .pick (.tmp 14) (.tmp 16) (.lit (.bool false))⟩ (
 .ev ⟨(some 18), none, .call (.fn 48) [(.tmp 10), (.tmp 17)]⟩ [⟨(some 11), none, .load true 10 (.tmp 3)⟩] (
 .done)
 (.stop)))
 (.stop))))
 (.stop))))))
 (.seq (.reg [⟨(some 19), none, .load true 10 (.tmp 3)⟩,
 ⟨(some 20), none, .mov (.tmp 1)⟩,
 ⟨(some 21), none, .call (.fn 50) [(.tmp 19), (.tmp 20)]⟩,
 ⟨(some 8), none, .alloc [(.int .i64 0), (.int .i64 0)]⟩,
 ⟨none, none, .store 2 (.tmp 8) (.tmp 21)⟩])
 (.seq (.seq (.reg [⟨(some 22), none, .mov (.tmp 2)⟩,
 ⟨(some 23), none, .bin .eql (.tmp 22) (.lit (.int .i64 0))⟩])
 (.cond (.tmp 23) (.seq (.reg [⟨(some 6), none, .mov (.lit (.int .i64 0))⟩,
 ⟨none, none, .store 1 (.tmp 7) (.lit (.int .i64 0))⟩])
 (.ret))
 (.skip)))
 (.seq (.reg [⟨(some 24), none, .mov (.tmp 2)⟩,
 ⟨(some 25), none, .faddr 0 (.tmp 8)⟩,
 ⟨(some 26), none, .load false 1 (.tmp 25)⟩,
 ⟨(some 27), none, .bin .sub (.tmp 24) (.tmp 26)⟩,
 ⟨(some 28), none, .mxmn true (.lit (.int .i64 0)) [(.tmp 27)]⟩,
 ⟨(some 6), none, .mov (.tmp 28)⟩,
 ⟨none, none, .store 1 (.tmp 7) (.lit (.int .i64 0))⟩])
 (.ret))))))
theorem k34 : FnC Try.prog 34 29 [6, 7] [] [.tmp 6, .cell 7 false 1] c34 3 := ⟨Try.f34, _, Try.func34, rfl, by decide, rfl, by decide, by kernel_rfl, by kernel_rfl⟩
/-- dipworks/rail.Ready$1 -/
def i46 : List AI := [⟨(some 2), none, .call (.fn 47) [(.tmp 1), (.tmp 0)]⟩]
theorem b46 : FnB Try.prog 46 3 1 i46 1 := ⟨Try.f46, _, _, _, _, Try.func46, rfl, by decide, rfl, by decide, rfl, rfl, rfl, rfl, by decide, by kernel_rfl⟩
/-- dipworks/rail.Owes$1 -/
def i65 : List AI := [⟨(some 2), none, .call (.fn 47) [(.tmp 1), (.tmp 0)]⟩]
theorem b65 : FnB Try.prog 65 3 1 i65 1 := ⟨Try.f65, _, _, _, _, Try.func65, rfl, by decide, rfl, by decide, rfl, rfl, rfl, rfl, by decide, by kernel_rfl⟩
/-- dipworks/rail.Dry$1 -/
def i74 : List AI := [⟨(some 2), none, .call (.fn 47) [(.tmp 1), (.tmp 0)]⟩]
theorem b74 : FnB Try.prog 74 3 1 i74 1 := ⟨Try.f74, _, _, _, _, Try.func74, rfl, by decide, rfl, by decide, rfl, rfl, rfl, rfl, by decide, by kernel_rfl⟩
/-- dipworks/rail.Wet$1 -/
def i82 : List AI := [⟨(some 2), none, .call (.fn 47) [(.tmp 1), (.tmp 0)]⟩]
theorem b82 : FnB Try.prog 82 3 1 i82 1 := ⟨Try.f82, _, _, _, _, Try.func82, rfl, by decide, rfl, by decide, rfl, rfl, rfl, rfl, by decide, by kernel_rfl⟩
/-- dipworks/rail.Latest$1 -/
def i86 : List AI := [⟨(some 2), none, .call (.fn 47) [(.tmp 1), (.tmp 0)]⟩]
theorem b86 : FnB Try.prog 86 3 1 i86 1 := ⟨Try.f86, _, _, _, _, Try.func86, rfl, by decide, rfl, by decide, rfl, rfl, rfl, rfl, by decide, by kernel_rfl⟩
/-- dipworks/rail.Enough$1 -/
def i93 : List AI := [⟨(some 2), none, .call (.fn 47) [(.tmp 1), (.tmp 0)]⟩]
theorem b93 : FnB Try.prog 93 3 1 i93 1 := ⟨Try.f93, _, _, _, _, Try.func93, rfl, by decide, rfl, by decide, rfl, rfl, rfl, rfl, by decide, by kernel_rfl⟩
/-- dipworks/rail.When$1 -/
def i95 : List AI := [⟨(some 2), none, .call (.fn 47) [(.tmp 1), (.tmp 0)]⟩]
theorem b95 : FnB Try.prog 95 3 1 i95 1 := ⟨Try.f95, _, _, _, _, Try.func95, rfl, by decide, rfl, by decide, rfl, rfl, rfl, rfl, by decide, by kernel_rfl⟩
/-- dipworks/rail.Buy$1 -/
def i98 : List AI := [⟨(some 2), none, .call (.fn 47) [(.tmp 1), (.tmp 0)]⟩]
theorem b98 : FnB Try.prog 98 3 1 i98 1 := ⟨Try.f98, _, _, _, _, Try.func98, rfl, by decide, rfl, by decide, rfl, rfl, rfl, rfl, by decide, by kernel_rfl⟩
end Go.Proofs.Ytcpkkjbkbdmopaa

/- The functions of package rail: what each hands back. -/
namespace Go.Proofs.Ytcpkkjbkbdmopaa
open Go Go.Ab

abbrev isD : List AI := [⟨(some 2), none, .call (.fn 47) [(.tmp 1), (.tmp 0)]⟩]
theorem dfr_pan {n : Nat} (hb : FnB Try.prog n 3 1 isD 1) {σ : List AO} {id : Nat} {x : T} {e : Int} (h : σ[id]? = some (.cells [.t x])) : ADef Try.prog n [.ptr id 0] σ (some (stp1 e)) fun σ' => σ' = σ.set id (.cells [.t (vi e)]) := by
  refine ADef.walkB hb ?_
  simp only [go_sem, Nat.reduceEqDiff, pxT]
  refine lend1 (m := id) ((stopped_pan e x).mono fun o σ' h => (⟨_, ⟨h.1, rfl⟩, h.2⟩ : ∃ a', (o = .ret (.tup []) ∧ a' = AO.cells [.t (vi e)]) ∧ σ' = [a'])) h rfl (by simp only [E.rens, E.ren]; rfl) ?_
  rintro o a' ⟨rfl, rfl⟩
  simp only [go_sem, Out.ren, AO.ren, E.rens, E.ren]
theorem dfr_none {n : Nat} (hb : FnB Try.prog n 3 1 isD 1) {σ : List AO} {id : Nat} {x : T} (h : σ[id]? = some (.cells [.t x])) : ADef Try.prog n [.ptr id 0] σ none fun σ' => σ' = σ := by
  refine ADef.walkB hb ?_
  simp only [go_sem, Nat.reduceEqDiff, pxT]
  refine lend1 (m := id) ((stopped_none x).mono fun o σ' h => (⟨_, ⟨h.1, rfl⟩, h.2⟩ : ∃ a', (o = .ret (.tup []) ∧ a' = AO.cells [.t x]) ∧ σ' = [a'])) h rfl (by simp only [E.rens, E.ren]; rfl) ?_
  rintro o a' ⟨rfl, rfl⟩
  simp only [go_sem, Out.ren, AO.ren, E.rens, E.ren]
  obtain ⟨h1, h2⟩ := List.getElem?_eq_some_iff.1 h
  rw [← h2]
  exact List.set_getElem_self h1

/-- What machines can hold. -/
structure Lens (r : Ra) : Prop where
  b : r.tw.bs.length < 9223372036854775808
  l : r.lines.length < 9223372036854775808

theorem chkO_flat (r : Ra) (is : Bool) : (chkO r is).flat = true := by unfold chkO; cases r.ok <;> cases is <;> rfl
theorem chkO_bad {r : Ra} (h : r.ok = false) (is : Bool) : chkO r is = .pan (stp1 1) := by unfold chkO; rw [h]; rfl
theorem chkO_rng {r : Ra} (h : r.ok = true) : chkO r false = .pan (stp1 2) := by unfold chkO; rw [h]; rfl
theorem chkO_ok {r : Ra} (h : r.ok = true) : chkO r true = .ret (.tup []) := by unfold chkO; rw [h]; rfl
theorem isH_nat {r : Ra} (hr : r.OK) {h : Int} (hh : r.isH h = true) : ∃ n : Nat, h = n ∧ n ≤ r.H := by
  unfold Ra.isH wI at hh
  have := of_decide_eq_true hh
  exact ⟨h.toNat, by omega, by unfold Ra.H; omega⟩

set_option maxRecDepth 8000 in
set_option maxHeartbeats 4000000 in
theorem Ready_ok (r : Ra) (h : Int) (hL : Lens r) : ACall Try.prog 14 [.t (tRa r), .t (vi h)] [] (res (spanE (specReady r h).1 (specReady r h).2)) := by
  refine ACall.walkD k14 ?_
  have hc := check_ok r (r.isH h) hL.b hL.l
  have hi := isHour_ok r h
  unfold c14
  unfold tRa at hc hi ⊢
  unfold tw3 ra7 at hc hi ⊢
  simp only [List.cons_append, List.nil_append] at hc hi
  simp only [go_sem, Nat.reduceEqDiff, Nat.reduceAdd]
  refine ACallL.quiet1 hi rfl rfl rfl ?_
  simp only [go_sem, Nat.reduceEqDiff, Nat.reduceAdd]
  refine ACallL.quiet1 hc rfl rfl (chkO_flat _ _) ?_
  cases hok : r.ok
  · rw [chkO_bad hok]
    simp only [go_sem, Nat.reduceEqDiff]
    refine finDL_pan rfl rfl ((dfr_pan b46 rfl).mono ?_)
    rintro σ' rfl
    exact ⟨_, rfl, [], rfl, rfl, res_mk (by unfold specReady ans; rw [hok]; rfl)⟩
  cases hh : r.isH h
  · rw [chkO_rng hok]
    simp only [go_sem, Nat.reduceEqDiff]
    refine finDL_pan rfl rfl ((dfr_pan b46 rfl).mono ?_)
    rintro σ' rfl
    exact ⟨_, rfl, [], rfl, rfl, res_mk (by unfold specReady ans; rw [hok, hh]; rfl)⟩
  have hr := (r.ok_iff).1 hok
  obtain ⟨n, rfl, hn⟩ := isH_nat hr hh
  have hrd := ready_ok r hr n hn
  unfold tRa tw3 ra7 at hrd
  simp only [List.cons_append, List.nil_append] at hrd
  rw [chkO_ok hok]
  have hfl : (if isT r.tw then Out.ret (.t (tS (r.ready n))) else .pan (stp1 10)).flat = true := by cases isT r.tw <;> rfl
  simp only [go_sem, Nat.reduceEqDiff, Nat.reduceAdd]
  refine ACallL.quiet1 hrd rfl rfl hfl ?_
  cases hT : isT r.tw
  · simp only [go_sem, Nat.reduceEqDiff]
    refine finDL_pan rfl rfl ((dfr_pan b46 rfl).mono ?_)
    rintro σ' rfl
    exact ⟨_, rfl, [], rfl, rfl, res_mk (by unfold specReady ans; rw [hok, hh, hT]; rfl)⟩
  simp only [tS, go_sem, Nat.reduceEqDiff, Nat.reduceAdd, Nat.reduceLeDiff, undef]
  refine finDL_ret rfl rfl ((dfr_none b46 rfl).mono ?_)
  rintro σ' rfl
  exact ⟨_, rfl, [], rfl, rfl, res_mk (by unfold specReady ans; rw [hok, hh, hT]; rfl)⟩

set_option maxRecDepth 8000 in
set_option maxHeartbeats 4000000 in
theorem Wet_ok (r : Ra) (h : Int) (hL : Lens r) : ACall Try.prog 27 [.t (tRa r), .t (vi h)] [] (res (spanE (specWet r h).1 (specWet r h).2)) := by
  refine ACall.walkD k27 ?_
  have hc := check_ok r (r.isH h) hL.b hL.l
  have hi := isHour_ok r h
  unfold c27
  unfold tRa at hc hi ⊢
  unfold tw3 ra7 at hc hi ⊢
  simp only [List.cons_append, List.nil_append] at hc hi
  simp only [go_sem, Nat.reduceEqDiff, Nat.reduceAdd]
  refine ACallL.quiet1 hi rfl rfl rfl ?_
  simp only [go_sem, Nat.reduceEqDiff, Nat.reduceAdd]
  refine ACallL.quiet1 hc rfl rfl (chkO_flat _ _) ?_
  cases hok : r.ok
  · rw [chkO_bad hok]
    simp only [go_sem, Nat.reduceEqDiff]
    refine finDL_pan rfl rfl ((dfr_pan b82 rfl).mono ?_)
    rintro σ' rfl
    exact ⟨_, rfl, [], rfl, rfl, res_mk (by unfold specWet; rw [hok]; rfl)⟩
  cases hh : r.isH h
  · rw [chkO_rng hok]
    simp only [go_sem, Nat.reduceEqDiff]
    refine finDL_pan rfl rfl ((dfr_pan b82 rfl).mono ?_)
    rintro σ' rfl
    exact ⟨_, rfl, [], rfl, rfl, res_mk (by unfold specWet; rw [hok, hh]; rfl)⟩
  have hr := (r.ok_iff).1 hok
  obtain ⟨n, rfl, hn⟩ := isH_nat hr hh
  have hrd := wet_ok r hr n hn
  unfold tRa tw3 ra7 at hrd
  simp only [List.cons_append, List.nil_append] at hrd
  rw [chkO_ok hok]
  simp only [go_sem, Nat.reduceEqDiff, Nat.reduceAdd]
  refine ACallL.quiet1 hrd rfl rfl rfl ?_
  simp only [tS, go_sem, Nat.reduceEqDiff, Nat.reduceAdd, undef]
  refine finDL_ret rfl rfl ((dfr_none b82 rfl).mono ?_)
  rintro σ' rfl
  exact ⟨_, rfl, [], rfl, rfl, res_mk (by unfold specWet; rw [hok, hh]; rfl)⟩

set_option maxRecDepth 8000 in
set_option maxHeartbeats 4000000 in
theorem Enough_ok (r : Ra) (h many : Int) (hL : Lens r) : ACall Try.prog 32 [.t (tRa r), .t (vi h), .t (vi many)] [] (res (oneE (specEnough r h many).1 (specEnough r h many).2)) := by
  refine ACall.walkD k32 ?_
  have hc := check_ok r (r.isH h && isMany many) hL.b hL.l
  have hi := isHour_ok r h
  have hm := isMany_ok many
  unfold c32
  unfold tRa at hc hi ⊢
  unfold tw3 ra7 at hc hi ⊢
  simp only [List.cons_append, List.nil_append] at hc hi
  simp only [go_sem, Nat.reduceEqDiff, Nat.reduceAdd]
  refine ACallL.quiet1 hi rfl rfl rfl ?_
  cases hh : r.isH h
  · rw [hh, Bool.false_and] at hc
    simp only [go_sem, Nat.reduceEqDiff, Nat.reduceAdd, undef]
    refine ACallL.quiet1 hc rfl rfl (chkO_flat _ _) ?_
    cases hok : r.ok
    · rw [chkO_bad hok]
      simp only [go_sem, Nat.reduceEqDiff]
      refine finDL_pan rfl rfl ((dfr_pan b93 rfl).mono ?_)
      rintro σ' rfl
      exact ⟨_, rfl, [], rfl, rfl, res_mk (by unfold specEnough ans; rw [hok]; rfl)⟩
    · rw [chkO_rng hok]
      simp only [go_sem, Nat.reduceEqDiff]
      refine finDL_pan rfl rfl ((dfr_pan b93 rfl).mono ?_)
      rintro σ' rfl
      exact ⟨_, rfl, [], rfl, rfl, res_mk (by unfold specEnough ans; rw [hok, hh]; rfl)⟩
  rw [hh, Bool.true_and] at hc
  simp only [go_sem, Nat.reduceEqDiff, Nat.reduceAdd, beq_self_eq_true]
  refine ACallL.quiet1 hm rfl rfl rfl ?_
  simp only [go_sem, Nat.reduceEqDiff, Nat.reduceAdd]
  refine ACallL.quiet1 hc rfl rfl (chkO_flat _ _) ?_
  cases hok : r.ok
  · rw [chkO_bad hok]
    simp only [go_sem, Nat.reduceEqDiff]
    refine finDL_pan rfl rfl ((dfr_pan b93 rfl).mono ?_)
    rintro σ' rfl
    exact ⟨_, rfl, [], rfl, rfl, res_mk (by unfold specEnough ans; rw [hok]; rfl)⟩
  cases hmm : isMany many
  · rw [chkO_rng hok]
    simp only [go_sem, Nat.reduceEqDiff]
    refine finDL_pan rfl rfl ((dfr_pan b93 rfl).mono ?_)
    rintro σ' rfl
    exact ⟨_, rfl, [], rfl, rfl, res_mk (by unfold specEnough ans; rw [hok, hh, hmm]; rfl)⟩
  have hr := (r.ok_iff).1 hok
  obtain ⟨n, rfl, hn⟩ := isH_nat hr hh
  have hrd := ready_ok r hr n hn
  unfold tRa tw3 ra7 at hrd
  simp only [List.cons_append, List.nil_append] at hrd
  rw [chkO_ok hok]
  have hfl : (if isT r.tw then Out.ret (.t (tS (r.ready n))) else .pan (stp1 10)).flat = true := by cases isT r.tw <;> rfl
  simp only [go_sem, Nat.reduceEqDiff, Nat.reduceAdd]
  refine ACallL.quiet1 hrd rfl rfl hfl ?_
  cases hT : isT r.tw
  · simp only [go_sem, Nat.reduceEqDiff]
    refine finDL_pan rfl rfl ((dfr_pan b93 rfl).mono ?_)
    rintro σ' rfl
    exact ⟨_, rfl, [], rfl, rfl, res_mk (by unfold specEnough ans; rw [hok, hh, hmm, hT]; rfl)⟩
  have hsp : specEnough r n many = (if many = 0 ∨ many ≤ (r.ready n).1 then 2 else if (r.ready n).2 < many then 0 else 1, 0) := by
    unfold specEnough ans; rw [hok, hh, hmm, hT]; rfl
  rw [hsp]
  generalize r.ready n = x at *
  obtain ⟨xl, xh⟩ := x
  cases h0 : (many == 0)
  · have n0 : ¬ many = 0 := by simpa using h0
    cases h1 : decide (xl ≥ many)
    · have n1 : ¬ many ≤ xl := by have := of_decide_eq_false h1; omega
      cases h2 : decide (xh < many)
      · have n2 : ¬ xh < many := of_decide_eq_false h2
        simp only [tS, go_sem, Nat.reduceEqDiff, Nat.reduceAdd, Nat.reduceLeDiff, undef, beq_self_eq_true, h0, h1, h2]
        refine finDL_ret rfl rfl ((dfr_none b93 rfl).mono ?_)
        rintro σ' rfl
        exact ⟨_, rfl, [], rfl, rfl, res_mk (by rw [if_neg (by omega), if_neg n2]; rfl)⟩
      · have n2 : xh < many := of_decide_eq_true h2
        simp only [tS, go_sem, Nat.reduceEqDiff, Nat.reduceAdd, Nat.reduceLeDiff, undef, beq_self_eq_true, h0, h1, h2]
        refine finDL_ret rfl rfl ((dfr_none b93 rfl).mono ?_)
        rintro σ' rfl
        exact ⟨_, rfl, [], rfl, rfl, res_mk (by rw [if_neg (by omega), if_pos n2]; rfl)⟩
    · have n1 : many ≤ xl := by have := of_decide_eq_true h1; omega
      simp only [tS, go_sem, Nat.reduceEqDiff, Nat.reduceAdd, Nat.reduceLeDiff, undef, beq_self_eq_true, h0, h1]
      refine finDL_ret rfl rfl ((dfr_none b93 rfl).mono ?_)
      rintro σ' rfl
      exact ⟨_, rfl, [], rfl, rfl, res_mk (by rw [if_pos (.inr n1)]; rfl)⟩
  · have n0 : many = 0 := by simpa using h0
    simp only [tS, go_sem, Nat.reduceEqDiff, Nat.reduceAdd, Bool.not_true, undef, h0]
    refine finDL_ret rfl rfl ((dfr_none b93 rfl).mono ?_)
    rintro σ' rfl
    exact ⟨_, rfl, [], rfl, rfl, res_mk (by rw [if_pos (.inl n0)]; rfl)⟩

set_option maxRecDepth 8000 in
set_option maxHeartbeats 4000000 in
theorem Buy_ok (r : Ra) (h many : Int) (hL : Lens r) : ACall Try.prog 34 [.t (tRa r), .t (vi h), .t (vi many)] [] (res (oneE (specBuy r h many).1 (specBuy r h many).2)) := by
  refine ACall.walkD k34 ?_
  have hc := check_ok r (r.isH h && isMany many) hL.b hL.l
  have hi := isHour_ok r h
  have hm := isMany_ok many
  unfold c34
  unfold tRa at hc hi ⊢
  unfold tw3 ra7 at hc hi ⊢
  simp only [List.cons_append, List.nil_append] at hc hi
  simp only [go_sem, Nat.reduceEqDiff, Nat.reduceAdd]
  refine ACallL.quiet1 hi rfl rfl rfl ?_
  cases hh : r.isH h
  · rw [hh, Bool.false_and] at hc
    simp only [go_sem, Nat.reduceEqDiff, Nat.reduceAdd, undef]
    refine ACallL.quiet1 hc rfl rfl (chkO_flat _ _) ?_
    cases hok : r.ok
    · rw [chkO_bad hok]
      simp only [go_sem, Nat.reduceEqDiff]
      refine finDL_pan rfl rfl ((dfr_pan b98 rfl).mono ?_)
      rintro σ' rfl
      exact ⟨_, rfl, [], rfl, rfl, res_mk (by unfold specBuy ans; rw [hok]; rfl)⟩
    · rw [chkO_rng hok]
      simp only [go_sem, Nat.reduceEqDiff]
      refine finDL_pan rfl rfl ((dfr_pan b98 rfl).mono ?_)
      rintro σ' rfl
      exact ⟨_, rfl, [], rfl, rfl, res_mk (by unfold specBuy ans; rw [hok, hh]; rfl)⟩
  rw [hh, Bool.true_and] at hc
  simp only [go_sem, Nat.reduceEqDiff, Nat.reduceAdd, beq_self_eq_true]
  refine ACallL.quiet1 hm rfl rfl rfl ?_
  simp only [go_sem, Nat.reduceEqDiff, Nat.reduceAdd]
  refine ACallL.quiet1 hc rfl rfl (chkO_flat _ _) ?_
  cases hok : r.ok
  · rw [chkO_bad hok]
    simp only [go_sem, Nat.reduceEqDiff]
    refine finDL_pan rfl rfl ((dfr_pan b98 rfl).mono ?_)
    rintro σ' rfl
    exact ⟨_, rfl, [], rfl, rfl, res_mk (by unfold specBuy ans; rw [hok]; rfl)⟩
  cases hmm : isMany many
  · rw [chkO_rng hok]
    simp only [go_sem, Nat.reduceEqDiff]
    refine finDL_pan rfl rfl ((dfr_pan b98 rfl).mono ?_)
    rintro σ' rfl
    exact ⟨_, rfl, [], rfl, rfl, res_mk (by unfold specBuy ans; rw [hok, hh, hmm]; rfl)⟩
  have hr := (r.ok_iff).1 hok
  obtain ⟨n, rfl, hn⟩ := isH_nat hr hh
  have hrd := ready_ok r hr n hn
  unfold tRa tw3 ra7 at hrd
  simp only [List.cons_append, List.nil_append] at hrd
  rw [chkO_ok hok]
  have hfl : (if isT r.tw then Out.ret (.t (tS (r.ready n))) else .pan (stp1 10)).flat = true := by cases isT r.tw <;> rfl
  simp only [go_sem, Nat.reduceEqDiff, Nat.reduceAdd]
  refine ACallL.quiet1 hrd rfl rfl hfl ?_
  cases hT : isT r.tw
  · simp only [go_sem, Nat.reduceEqDiff]
    refine finDL_pan rfl rfl ((dfr_pan b98 rfl).mono ?_)
    rintro σ' rfl
    exact ⟨_, rfl, [], rfl, rfl, res_mk (by unfold specBuy ans; rw [hok, hh, hmm, hT]; rfl)⟩
  have hsp : specBuy r n many = (if many = 0 then 0 else max 0 (many - (r.ready n).1), 0) := by
    unfold specBuy ans; rw [hok, hh, hmm, hT]; rfl
  have hbd := r.ready_bd hr hT n
  have hmb : 0 ≤ many ∧ many ≤ 60 := by have := of_decide_eq_true (show decide (0 ≤ many ∧ many ≤ 60) = true from hmm); exact this
  rw [hsp]
  generalize r.ready n = x at *
  obtain ⟨xl, xh⟩ := x
  simp only at hbd
  have hw : IntKind.i64.wrap (many - xl) = many - xl := wrap_id (by omega) (by omega)
  cases h0 : (many == 0)
  · have n0 : ¬ many = 0 := by simpa using h0
    simp only [tS, go_sem, Nat.reduceEqDiff, Nat.reduceAdd, Nat.reduceLeDiff, undef, h0, hw]
    refine finDL_ret rfl rfl ((dfr_none b98 rfl).mono ?_)
    rintro σ' rfl
    exact ⟨_, rfl, [], rfl, rfl, res_mk (by rw [if_neg n0]; rfl)⟩
  · have n0 : many = 0 := by simpa using h0
    simp only [tS, go_sem, Nat.reduceEqDiff, Nat.reduceAdd, undef, h0]
    refine finDL_ret rfl rfl ((dfr_none b98 rfl).mono ?_)
    rintro σ' rfl
    exact ⟨_, rfl, [], rfl, rfl, res_mk (by rw [if_pos n0]; rfl)⟩
end Go.Proofs.Ytcpkkjbkbdmopaa

/- Dry and Owes; what else Latest calls. -/
namespace Go.Proofs.Ytcpkkjbkbdmopaa
open Go Go.Ab

theorem fromL {r : Ra} (hr : r.OK) (foul : Bool) {l : Ln} (hl : l ∈ r.lines) {m : Nat} {σ : List AO} {a : AO} (hm : σ[m]? = some a) (ha : MemoY (r.f foul) a) {R : Lz (Out → List AO → Prop)}
    (hk : ∀ a', MemoY (r.f foul) a' → R.get (.ret (.tup [.t (vi ((((fromN (r.f foul) r.H l.from_.toNat (l.wet foul)).getD 0 : Nat) : Int))), .t (vb (fromN (r.f foul) r.H l.from_.toNat (l.wet foul)).isSome)])) (σ.set m a')) :
    @ACallL Try.prog 76 [yE r foul m, .t (tLn l)] σ R := by
  refine lend1 (m := m) (from_ok r hr foul l hl a ha) hm (memo_ren _ a ha).symm (by simp only [E.rens, E.ren, ren_y]; rfl) ?_
  rintro o a' ⟨rfl, ha'⟩
  rw [memo_ren _ a' ha']
  exact hk a' ha'

theorem isLn_get {r : Ra} {i : Int} (h : r.isLn i = true) : ∃ (n : Nat) (l : Ln), i = n ∧ r.lines[n]? = some l := by
  unfold Ra.isLn wI at h
  have := of_decide_eq_true h
  have hn : i.toNat < r.lines.length := by omega
  exact ⟨i.toNat, r.lines[i.toNat], by omega, List.getElem?_eq_getElem hn⟩

set_option maxRecDepth 8000 in
set_option maxHeartbeats 4000000 in
theorem Dry_ok (r : Ra) (i : Int) (hL : Lens r) : ACall Try.prog 25 [.t (tRa r), .t (vi i)] [] (res (spanE (specDry r i).1 (specDry r i).2)) := by
  refine ACall.walkD k25 ?_
  have hc := check_ok r (r.isLn i) hL.b hL.l
  have hLl := hL.l
  have hi := qwithin_ok i 0 ((r.lines.length : Int) - 1)
  have e1 : IntKind.i64.wrap ((r.lines.length : Int) - 1) = (r.lines.length : Int) - 1 := wrap_id (by omega) (by omega)
  have e2 : wI i 0 ((r.lines.length : Int) - 1) = r.isLn i := rfl
  rw [e2] at hi
  unfold c25
  unfold tRa at hc ⊢
  unfold tw3 ra7 at hc ⊢
  simp only [List.cons_append, List.nil_append] at hc
  simp only [go_sem, Nat.reduceEqDiff, Nat.reduceAdd, Nat.reduceLeDiff, List.length_map, e1]
  refine ACallL.quiet1 hi rfl rfl rfl ?_
  simp only [go_sem, Nat.reduceEqDiff, Nat.reduceAdd, Nat.reduceLeDiff, List.length_map]
  refine ACallL.quiet1 hc rfl rfl (chkO_flat _ _) ?_
  cases hok : r.ok
  · rw [chkO_bad hok]
    simp only [go_sem, Nat.reduceEqDiff]
    refine finDL_pan rfl rfl ((dfr_pan b74 rfl).mono ?_)
    rintro σ' rfl
    exact ⟨_, rfl, [], rfl, rfl, res_mk (by unfold specDry; rw [hok]; rfl)⟩
  cases hh : r.isLn i
  · rw [chkO_rng hok]
    simp only [go_sem, Nat.reduceEqDiff]
    refine finDL_pan rfl rfl ((dfr_pan b74 rfl).mono ?_)
    rintro σ' rfl
    exact ⟨_, rfl, [], rfl, rfl, res_mk (by unfold specDry; rw [hok, hh]; rfl)⟩
  have hr := (r.ok_iff).1 hok
  obtain ⟨n, l, rfl, hl⟩ := isLn_get hh
  have hmem := List.mem_of_getElem? hl
  rw [chkO_ok hok]
  have hsp : specDry r n = if r.tm true l ≤ r.H then ((((r.tm false l : Nat) : Int), ((r.tm true l : Nat) : Int)), 0) else ((0, 0), 11) := by
    unfold specDry
    rw [hok, hh, if_pos rfl, if_pos rfl, Int.toNat_natCast, hl]
  rw [hsp]
  obtain ⟨g1, g2, g3⟩ := hr.H
  have htl := r.tm_le hr hmem
  have hor := tm_or (r.f true) r.H l.from_.toNat (l.wet true)
  have hor2 := tm_or (r.f false) r.H l.from_.toNat (l.wet false)
  have hF0 : r.tm false l = (fromN (r.f false) r.H l.from_.toNat (l.wet false)).getD 99 := rfl
  have hF1 : r.tm true l = (fromN (r.f true) r.H l.from_.toNat (l.wet true)).getD 99 := rfl
  have h1 := @inL r hr false
  have h2 := @inL r hr true
  have h3 := fun m {σ a} => @fromL r hr false l hmem m σ a
  have h4 := fun m {σ a} => @fromL r hr true l hmem m σ a
  have hg : ∀ x, (fromN (r.f true) r.H l.from_.toNat (l.wet true)) = some x → x ≤ r.H := fun x hx => (fromN_some.1 hx).2.1
  rw [show Ytcpkkjbkbdmopaa.tm (r.f true) r.H l.from_.toNat (l.wet true) = r.tm true l from rfl] at hor
  rw [show Ytcpkkjbkbdmopaa.tm (r.f false) r.H l.from_.toNat (l.wet false) = r.tm false l from rfl] at hor2
  generalize fromN (r.f false) r.H l.from_.toNat (l.wet false) = F0 at *
  generalize fromN (r.f true) r.H l.from_.toNat (l.wet true) = F1 at *
  have htn : tLn l = .agg [vi l.many, vi l.from_, vi l.lo, vi l.hi] := rfl
  rw [htn] at h3 h4
  unfold tw3 ra7 at h1 h2
  simp only [List.cons_append, List.nil_append] at h1 h2
  have hn0 : (0 ≤ (n : Int)) = True := by simp
  simp only [go_sem, Nat.reduceEqDiff, Nat.reduceAdd, Nat.reduceLeDiff, List.length_map, List.getElem?_map, hl, Option.map_some, htn]
  refine h1 rfl ?_
  simp only [go_sem, Nat.reduceEqDiff, Nat.reduceAdd, Nat.reduceLeDiff, List.getElem?_map, hl, Option.map_some, htn]
  refine h3 3 rfl ⟨[], [], 0, MapY.nil _, rfl⟩ ?_
  intro a1 ha1
  simp only [go_sem, Nat.reduceEqDiff, Nat.reduceAdd, Nat.reduceLeDiff, List.getElem?_map, hl, Option.map_some, htn]
  refine h2 rfl ?_
  simp only [go_sem, Nat.reduceEqDiff, Nat.reduceAdd, Nat.reduceLeDiff, List.getElem?_map, hl, Option.map_some, htn]
  refine h4 4 rfl ⟨[], [], 0, MapY.nil _, rfl⟩ ?_
  intro a2 ha2
  cases F1 with
  | none =>
    simp only [go_sem, Nat.reduceEqDiff, Nat.reduceAdd, Nat.reduceLeDiff, List.getElem?_map, hl, Option.map_some, htn, Option.isSome_none]
    refine ACallL.quiet1 (must_ok false 11) rfl rfl rfl ?_
    simp only [go_sem, Nat.reduceEqDiff, Nat.reduceAdd, Nat.reduceLeDiff, undef]
    refine finDL_pan rfl rfl ((dfr_pan b74 rfl).mono ?_)
    rintro σ' rfl
    have : ¬ r.tm true l ≤ r.H := by rw [hF1]; simp; omega
    exact ⟨_, rfl, [], rfl, rfl, res_mk (by rw [if_neg this]; rfl)⟩
  | some x =>
    have hx := hg x rfl
    have e4 : r.tm true l = x := hF1
    have e3 : ((F0.getD 0 : Nat) : Int) = (r.tm false l : Nat) := by
      rw [hF0]
      cases F0 with
      | none => simp at hF0; omega
      | some y => rfl
    have e5 : (((some x : Option Nat).getD 0 : Nat) : Int) = (r.tm true l : Nat) := by rw [e4]; rfl
    rw [e5]
    simp only [go_sem, Nat.reduceEqDiff, Nat.reduceAdd, Nat.reduceLeDiff, List.getElem?_map, hl, Option.map_some, htn, Option.isSome_some]
    refine ACallL.quiet1 (must_ok true 11) rfl rfl rfl ?_
    simp only [go_sem, Nat.reduceEqDiff, Nat.reduceAdd, Nat.reduceLeDiff, undef, e3]
    refine finDL_ret rfl rfl ((dfr_none b74 rfl).mono ?_)
    rintro σ' rfl
    exact ⟨_, rfl, [], rfl, rfl, res_mk (by rw [if_pos (by omega)]; rfl)⟩

theorem keptOf_bd {t : Tw} (ht : t.OK) (hT : isT t = true) {n : Nat} {b : B} (hb : t.bs[n]? = some b) : 0 ≤ (keptOf t n).1 ∧ (keptOf t n).1 ≤ (keptOf t n).2 ∧ (keptOf t n).2 ≤ 4 := by
  have hn := (List.getElem?_eq_some_iff.1 hb).1
  have hne : (docA t).isEmpty = false := by have := isT_eq ht; rw [hT] at this; simpa using this.symm
  obtain ⟨l, hl⟩ : ∃ l, l ∈ docA t := by
    cases h : docA t with
    | nil => rw [h] at hne; simp at hne
    | cons x xs => exact ⟨x, List.mem_cons_self⟩
  have hw : 0 < waysN t n 0 (l.getD n 0) := by
    have := waysN_pos ht n hn (l.getD n 0)
    rw [List.any_eq_true.2 ⟨l, hl, by simp⟩] at this
    exact of_decide_eq_true this
  have hk : keptOf t n = hullOf ((canL b n (-1) 0 0).filter fun k => decide (0 < waysN t n 0 k)) := by unfold keptOf; rw [hb]
  have hbd : ∀ x ∈ (canL b n (-1) 0 0).filter fun k => decide (0 < waysN t n 0 k), 0 ≤ x ∧ x ≤ 4 := fun x hx => canL_mem ht (List.mem_of_getElem? hb) (List.mem_filter.1 hx).1
  obtain ⟨h1, h2, h3⟩ := hullOf_bd (l := (canL b n (-1) 0 0).filter fun k => decide (0 < waysN t n 0 k)) (List.ne_nil_of_mem (List.mem_filter.2 ⟨truth_word ht hb hl, by simpa using hw⟩)) hbd (by decide) (by decide)
  rw [hk]
  exact ⟨(hbd _ h1).1, (h3 _ h1).2, (hbd _ h2).2⟩

set_option maxRecDepth 8000 in
set_option maxHeartbeats 4000000 in
theorem Owes_ok (r : Ra) (i : Int) (hL : Lens r) : ACall Try.prog 20 [.t (tRa r), .t (vi i)] [] (res (spanE (specOwes r i).1 (specOwes r i).2)) := by
  refine ACall.walkD k20 ?_
  have hc := check_ok r (r.tw.isB i) hL.b hL.l
  have hLb := hL.b
  have hi := qwithin_ok i 0 ((r.tw.bs.length : Int) - 1)
  have e1 : IntKind.i64.wrap ((r.tw.bs.length : Int) - 1) = (r.tw.bs.length : Int) - 1 := wrap_id (by omega) (by omega)
  have e2 : wI i 0 ((r.tw.bs.length : Int) - 1) = r.tw.isB i := rfl
  rw [e2] at hi
  unfold c20
  unfold tRa at hc ⊢
  unfold tw3 ra7 at hc ⊢
  simp only [List.cons_append, List.nil_append] at hc
  simp only [go_sem, Nat.reduceEqDiff, Nat.reduceAdd, Nat.reduceLeDiff, List.length_map, e1]
  refine ACallL.quiet1 hi rfl rfl rfl ?_
  simp only [go_sem, Nat.reduceEqDiff, Nat.reduceAdd, Nat.reduceLeDiff, List.length_map]
  refine ACallL.quiet1 hc rfl rfl (chkO_flat _ _) ?_
  cases hok : r.ok
  · rw [chkO_bad hok]
    simp only [go_sem, Nat.reduceEqDiff]
    refine finDL_pan rfl rfl ((dfr_pan b65 rfl).mono ?_)
    rintro σ' rfl
    exact ⟨_, rfl, [], rfl, rfl, res_mk (by unfold specOwes ans; rw [hok]; rfl)⟩
  cases hh : r.tw.isB i
  · rw [chkO_rng hok]
    simp only [go_sem, Nat.reduceEqDiff]
    refine finDL_pan rfl rfl ((dfr_pan b65 rfl).mono ?_)
    rintro σ' rfl
    exact ⟨_, rfl, [], rfl, rfl, res_mk (by unfold specOwes ans; rw [hok, hh]; rfl)⟩
  have hr := (r.ok_iff).1 hok
  obtain ⟨n, b, rfl, hb⟩ := isB_get hh
  have hk := Kept_ok r.tw n hLb
  have hsp : specKept r.tw n = if isT r.tw then (keptOf r.tw n, 0) else ((0, 0), 10) := by
    unfold specKept
    rw [(r.tw.ok_iff).2 hr.tw, if_pos rfl, hh, if_pos rfl]
    rfl
  rw [hsp] at hk
  unfold tw3 at hk
  have hsp2 : specOwes r n = if isT r.tw then (((keptOf r.tw n).1 * r.price, (keptOf r.tw n).2 * r.price), 0) else ((0, 0), 10) := by
    unfold specOwes ans
    rw [hok, hh]
    rfl
  rw [hsp2]
  have hbd := fun hT => keptOf_bd hr.tw hT hb
  rw [chkO_ok hok]
  have hp := hr.price
  generalize keptOf r.tw n = K at *
  obtain ⟨K0, K1⟩ := K
  cases hT : isT r.tw
  · rw [hT] at hk
    simp only [go_sem, Nat.reduceEqDiff, Nat.reduceAdd, Nat.reduceLeDiff, List.length_map]
    refine ACallL.fresh1 hk rfl ?_
    simp only [spanE, tS, go_sem, Nat.reduceEqDiff, Nat.reduceAdd, Int.reduceBEq, undef]
    refine ACallL.quiet1 (must_ok false 10) rfl rfl rfl ?_
    simp only [go_sem, Nat.reduceEqDiff, Nat.reduceAdd, Nat.reduceLeDiff, undef]
    refine finDL_pan rfl rfl ((dfr_pan b65 rfl).mono ?_)
    rintro σ' rfl
    exact ⟨_, rfl, [], rfl, rfl, res_mk (by rfl)⟩
  rw [hT] at hk
  have hbd := hbd hT
  simp only at hbd
  have m0 : 0 ≤ K0 * r.price ∧ K0 * r.price ≤ 80 := ⟨Int.mul_nonneg (by omega) (by omega), by have := Int.mul_le_mul (show K0 ≤ 4 by omega) hp.2 hp.1 (by decide); omega⟩
  have m1 : 0 ≤ K1 * r.price ∧ K1 * r.price ≤ 80 := ⟨Int.mul_nonneg (by omega) (by omega), by have := Int.mul_le_mul (show K1 ≤ 4 by omega) hp.2 hp.1 (by decide); omega⟩
  have w0 : IntKind.i64.wrap (K0 * r.price) = K0 * r.price := wrap_id (by omega) (by omega)
  have w1 : IntKind.i64.wrap (K1 * r.price) = K1 * r.price := wrap_id (by omega) (by omega)
  simp only [go_sem, Nat.reduceEqDiff, Nat.reduceAdd, Nat.reduceLeDiff, List.length_map]
  refine ACallL.fresh1 hk rfl ?_
  simp only [spanE, tS, go_sem, Nat.reduceEqDiff, Nat.reduceAdd, undef, beq_self_eq_true]
  refine ACallL.quiet1 (must_ok true 0) rfl rfl rfl ?_
  simp only [go_sem, Nat.reduceEqDiff, Nat.reduceAdd, Nat.reduceLeDiff, undef, w0, w1]
  refine finDL_ret rfl rfl ((dfr_none b65 rfl).mono ?_)
  rintro σ' rfl
  exact ⟨_, rfl, [], rfl, rfl, res_mk (by rfl)⟩
end Go.Proofs.Ytcpkkjbkbdmopaa

/- Until when a towel can be hung. -/
namespace Go.Proofs.Ytcpkkjbkbdmopaa
open Go Go.Ab

/-! ### A row is turned round -/
/-- Behind so many exchanges. -/
def revK (n i : Nat) : List Nat := (List.range n).map fun k => if k < i ∨ n - i ≤ k then n - 1 - k else k
theorem revK_len (n i : Nat) : (revK n i).length = n := by simp [revK]
theorem revK_at {n i k : Nat} (h : k < n) : (revK n i)[k]? = some (if k < i ∨ n - i ≤ k then n - 1 - k else k) := by
  unfold revK
  rw [List.getElem?_map, List.getElem?_range h]; rfl
theorem revK_zero (n : Nat) : revK n 0 = List.range n := by
  apply List.ext_getElem?
  intro k
  by_cases h : k < n
  · rw [revK_at h, List.getElem?_range h, if_neg (by omega)]
  · rw [List.getElem?_eq_none (by rw [revK_len]; omega), List.getElem?_eq_none (by simp; omega)]
theorem revK_last {n i : Nat} (h : n ≤ 2 * i + 1) : revK n i = (List.range n).reverse := by
  apply List.ext_getElem?
  intro k
  by_cases hk : k < n
  · rw [revK_at hk, List.getElem?_reverse (by simpa using hk), List.length_range, List.getElem?_range (by omega)]
    split
    · rfl
    · congr 1; omega
  · rw [List.getElem?_eq_none (by rw [revK_len]; omega), List.getElem?_eq_none (by simp; omega)]
theorem revK_succ {n i : Nat} (h : 2 * i + 1 < n) : ((revK n i).set i (n - 1 - i)).set (n - 1 - i) i = revK n (i + 1) := by
  apply List.ext_getElem?
  intro k
  by_cases hk : k < n
  · rw [revK_at hk]
    by_cases h1 : k = n - 1 - i
    · rw [← h1, List.getElem?_set_self (by rw [List.length_set, revK_len]; omega), if_pos (by omega)]
      congr 1; omega
    · rw [List.getElem?_set_ne (Ne.symm h1)]
      by_cases h2 : k = i
      · rw [h2, List.getElem?_set_self (by rw [revK_len]; omega), if_pos (by omega)]
      · rw [List.getElem?_set_ne (Ne.symm h2), revK_at hk]
        by_cases h3 : k < i ∨ n - i ≤ k
        · rw [if_pos h3, if_pos (by omega)]
        · rw [if_neg h3, if_neg (by omega)]
  · rw [List.getElem?_eq_none (by simp [revK_len]; omega), List.getElem?_eq_none (by rw [revK_len]; omega)]
abbrev tNs (l : List Nat) : List T := l.map fun n : Nat => vi n
theorem gc_tNs {kp : List Nat} {σ : List AO} {n : Nat} (l : List Nat) : ((tNs l).map E.t).map (E.gc kp σ (n + 1)) = (tNs l).map E.t := gc_row _
theorem set_tNs (l : List Nat) (i v : Nat) : ((tNs l).map E.t).set i (E.t (vi v)) = (tNs (l.set i v)).map E.t := by
  unfold tNs
  rw [List.map_set, List.map_set]

set_option maxRecDepth 8000 in
set_option maxHeartbeats 4000000 in
theorem reverse_ok (n : Nat) (hn : n ≤ 1000) : ACall Try.prog 87 [.loc 0 n] [.row 1 ((tNs (List.range n)).map .t)] (fun o σ' => ∃ a', (o = .ret (.tup []) ∧ a' = AO.row 1 ((tNs (List.range n).reverse).map .t)) ∧ σ' = [a']) := by
  refine ACall.walk k87 ?_
  rw [← revK_zero]
  unfold c87
  have hlen := revK_len n
  have w1 : IntKind.i64.wrap ((n : Int) - 1) = (n : Int) - 1 := wrap_id (by omega) (by omega)
  have hl0 : ((tNs (revK n 0)).map E.t).length = n := by simp [tNs, hlen]
  simp only [go_sem, Nat.reduceEqDiff, hl0, w1]
  refine awpL_loopK n (fun i s' => 2 * i ≤ n + 1 ∧ s' = { env := [(2, .t (vi i)), (3, .t (vi ((n : Int) - 1 - i))), (0, .loc 0 n)], σ := [.row 1 ((tNs (revK n i)).map .t)] }) ⟨_, Sub.gc [0] [2, 3, 0] rfl rfl, by omega, ?_⟩ ?_
  · refine St.gc_mk ?_ ?_ rfl rfl
    · simp only [List.map_cons, List.map_nil, lk, Nat.reduceEqDiff, reduceIte, show ((n : Int) - 1 - ((0 : Nat) : Int)) = (n : Int) - 1 by omega]; rfl
    · show [AO.row 1 (((tNs _).map E.t).map (E.gc _ _ _))] = _
      rw [gc_tNs]
  rintro i s' hi ⟨hi2, rfl⟩
  have hli : ((tNs (revK n i)).map E.t).length = n := by simp [tNs, hlen]
  cases g : decide ((i : Int) < (n : Int) - 1 - i)
  · simp only [go_sem, Nat.reduceEqDiff, g]
    refine finL_ret [0] ⟨rfl, rfl, rfl, rfl, _, rfl, _, ⟨rfl, rfl⟩, ?_⟩
    show [AO.row 1 (((tNs _).map E.t).map (E.gc _ _ _))] = _
    rw [gc_tNs, revK_last (by have := of_decide_eq_false g; omega), revK_zero]
  have hlt : 2 * i + 1 < n := by have := of_decide_eq_true g; omega
  have hj : (n : Int) - 1 - i = ((n - 1 - i : Nat) : Int) := by omega
  rw [hj] at g ⊢
  have a1 := revK_at (n := n) (i := i) (k := i) (by omega)
  have a2 := revK_at (n := n) (i := i) (k := n - 1 - i) (by omega)
  rw [if_neg (by omega)] at a1 a2
  have hs := revK_succ hlt
  have hw : IntKind.i64.wrap ((i : Int) + 1) = ((i + 1 : Nat) : Int) := by rw [wrap_id (by omega) (by omega)]; omega
  have hw2 : IntKind.i64.wrap (((n - 1 - i : Nat) : Int) - 1) = (n : Int) - 1 - (i + 1 : Nat) := by rw [wrap_id (by omega) (by omega)]; omega
  have e1 : ((i : Int) < n) = True := by simp; omega
  have e2 : (((n - 1 - i : Nat) : Int) < n) = True := by simp; omega
  have b1 : ((tNs (revK n i)).map E.t)[i]? = some (.t (vi (i : Nat))) := by rw [List.getElem?_map, List.getElem?_map, a1]; rfl
  have b2 : ((tNs (revK n i)).map E.t)[n - 1 - i]? = some (.t (vi (n - 1 - i : Nat))) := by rw [List.getElem?_map, List.getElem?_map, a2]; rfl
  have s1 := set_tNs (revK n i) i (n - 1 - i)
  have s2 := set_tNs ((revK n i).set i (n - 1 - i)) (n - 1 - i) i
  rw [hs] at s2
  have hl2 : ((tNs ((revK n i).set i (n - 1 - i))).map E.t).length = n := by simp [tNs, hlen]
  have b3 : ∃ x : T, ((tNs ((revK n i).set i (n - 1 - i))).map E.t)[n - 1 - i]? = some (.t (vi (n - 1 - i : Nat))) := ⟨vi 0, by
    rw [List.getElem?_map, List.getElem?_map, List.getElem?_set_ne (by omega), a2]; rfl⟩
  obtain ⟨_, b3⟩ := b3
  have hl3 : ((tNs (revK n (i + 1))).map E.t).length = n := by simp [tNs, hlen]
  generalize (tNs (revK n i)).map E.t = X at *
  generalize (tNs ((revK n i).set i (n - 1 - i))).map E.t = Y at *
  have gz : ∀ σ : List AO, ((tNs (revK n (i + 1))).map E.t).map (E.gc [0] σ 12) = (tNs (revK n (i + 1))).map E.t := fun σ => gc_tNs _
  generalize (tNs (revK n (i + 1))).map E.t = Z at *
  generalize n - 1 - i = j at *
  simp only [go_sem, Nat.reduceEqDiff, Bool.not_false, undef, g, hli, e1, e2, b1, b2, b3, s1, s2, hl2, hw, hw2]
  refine ⟨by omega, _, Sub.gc [0] [2, 3, 0] rfl rfl, by omega, ?_⟩
  refine St.gc_mk rfl ?_ rfl rfl
  show [AO.row 1 (Z.map (E.gc _ _ _))] = _
  rw [gz]
end Go.Proofs.Ytcpkkjbkbdmopaa

/- Until when a towel can be hung: the walk. -/
namespace Go.Proofs.Ytcpkkjbkbdmopaa
open Go Go.Ab

theorem values_ok (l : List Nat) : ACall Try.prog 89 [.t (.slice 1 (tNs l))] [] (ret (.fn (.func 110) [] [.ptr (.agg [.slice 1 (tNs l)]) 0])) := by
  refine ACall.walk k89 ?_
  unfold c89
  simp only [go_sem, Nat.reduceEqDiff]
  exact finL_ret [] ⟨rfl, rfl, rfl, rfl, _, rfl, ret_mk rfl⟩

set_option maxRecDepth 8000 in
theorem values_gen (l : List Nat) (hl : l.length ≤ 1000) : AGen Try.prog 110 (([] : List T).map .t ++ .yld :: ([.ptr (.agg [.slice 1 (tNs l)]) 0] : List T).map .t) ((l.map fun n : Nat => (n : Int)).map (.int .i64)) (stp true ((l.map fun n : Nat => (n : Int)).map (Value.int .i64))) := by
  refine AGen.walkS k110 ?_
  unfold c110
  have hlen : ((l.map fun n : Nat => (n : Int)).map (Value.int .i64)).length = l.length := by simp
  have hll : (tNs l).length = l.length := by simp [tNs]
  have hat : ∀ (j : Nat) (hj : j < l.length), (tNs l)[j]? = some (vi (l[j] : Nat)) ∧ ((l.map fun n : Nat => (n : Int)).map (Value.int .i64))[j]? = some (.int .i64 (l[j] : Nat)) := fun j hj => by
    constructor
    · rw [List.getElem?_map, List.getElem?_eq_getElem hj]; rfl
    · rw [List.getElem?_map, List.getElem?_map, List.getElem?_eq_getElem hj]; rfl
  generalize (l.map fun n : Nat => (n : Int)).map (Value.int .i64) = L at *
  generalize tNs l = X at *
  simp only [go_sem, Nat.reduceEqDiff, hll]
  refine awpL_for (i := 7) (L := 6) l.length (fun j st => st = { env := [(7, .t (vi j)), (6, .t (vi l.length)), (5, .t (.slice 1 X)), (0, .yld)], σ := [], k := j }) ?_ ⟨_, Sub.gc [] [7, 6, 5, 0] rfl rfl, rfl⟩ ?_ ?_
  · rintro k st rfl; exact ⟨rfl, rfl⟩
  · rintro j st hj rfl
    obtain ⟨h1, h2⟩ := hat j hj
    have hw : IntKind.i64.wrap ((j : Int) + 1) = ((j + 1 : Nat) : Int) := by rw [wrap_id (by omega) (by omega)]; omega
    simp only [go_sem, Nat.reduceEqDiff, Bool.not_true, Bool.not_false, h1, hw]
    exact ⟨h2, finS_ret (.inr rfl) [] ⟨rfl, rfl, _, rfl⟩, _, Sub.gc [] [7, 6, 5, 0] rfl rfl, rfl⟩
  · rintro st rfl
    simp only [go_sem]
    exact finS_ret (.inl hlen.symm) [] ⟨rfl, rfl, _, rfl⟩

set_option maxRecDepth 8000 in
set_option maxHeartbeats 4000000 in
theorem suit2_ok (r : Ra) (hr : r.OK) (much hour : Nat) (hh : hour ≤ r.H) (x : Nat) (hx : x ≤ 12) (a : AO) (ha : MemoY (r.f true) a) :
    ACall Try.prog 90 [.t (vi x), .vp [yE r true 0] 0, .t (.ptr (.agg [vi hour]) 0), .t (.ptr (.agg [vi much]) 0)] [a] (yCall (r.f true) (.ret (.t (vb (decide (much ≤ driedN (r.f true) x hour)))))) := by
  obtain ⟨ks, xs, clk, M, rfl⟩ := ha
  refine ACall.walk k90 ?_
  have hd := dried_ok r hr true x hx hour hh M (clk := clk)
  have hren := fun ρ => ren_y ρ r true 0
  have hge : ∀ D : Nat, decide ((D : Int) ≥ ((much : Nat) : Int)) = decide (much ≤ D) := fun D => by
    apply decide_eq_decide.2; omega
  unfold c90
  simp only [go_sem, Nat.reduceEqDiff, Nat.reduceAdd, Nat.reduceLeDiff]
  refine lend1 (m := 0) hd rfl rfl (by simp only [E.rens, E.ren, hren]; rfl) ?_
  rintro o a' ⟨rfl, ks2, xs2, clk2, M2, rfl⟩
  simp only [go_sem, Nat.reduceEqDiff, Out.ren, E.ren, AO.ren, hge]
  exact finL_ret [0] ⟨rfl, rfl, rfl, rfl, _, rfl, _, ⟨rfl, _, _, _, M2, rfl⟩, rfl⟩

theorem late_find (p : Nat → Bool) (l : List Nat) : (l.map fun n : Nat => (n : Int)).find? (fun x => p x.toNat) = (l.find? p).map fun h : Nat => (h : Int) := by
  rw [List.find?_map]
  rfl

def tos (n j : Nat) : List Nat := (List.range n).map fun k => if k < j then k else 0
theorem tos_len (n j : Nat) : (tos n j).length = n := by simp [tos]
theorem tos_zero (n : Nat) : (tNs (tos n 0)).map E.t = List.replicate n (E.t (vi 0)) := by
  apply List.ext_getElem
  · simp [tos]
  · intro i h1 h2; simp [tos]
theorem tos_all (n : Nat) : tos n n = List.range n := by
  unfold tos
  conv => rhs; rw [← List.map_id (List.range n)]
  apply List.map_congr_left
  intro i hi
  rw [if_pos (List.mem_range.1 hi)]; rfl
theorem tos_set {n j : Nat} (hj : j < n) : (tos n j).set j j = tos n (j + 1) := by
  apply List.ext_getElem?
  intro i
  unfold tos
  by_cases hi : i = j
  · subst hi
    rw [List.getElem?_set_self (by simpa using hj), List.getElem?_map, List.getElem?_range hj]
    simp
  · rw [List.getElem?_set_ne (Ne.symm hi), List.getElem?_map, List.getElem?_map]
    by_cases hi2 : i < n
    · rw [List.getElem?_range hi2]
      simp only [Option.map_some]
      have : (i < j) = (i < j + 1) := by apply propext; omega
      simp only [this]
    · rw [List.getElem?_eq_none (by simp; omega)]; rfl

set_option maxRecDepth 8000 in
set_option maxHeartbeats 8000000 in
theorem Latest_ok (r : Ra) (much h : Int) (hL : Lens r) : ACall Try.prog 29 [.t (tRa r), .t (vi much), .t (vi h)] [] (res (oneE (specLatest r much h).1 (specLatest r much h).2)) := by
  refine ACall.walkD k29 ?_
  have hc := check_ok r (r.isH h && wI much 1 8) hL.b hL.l
  have hi := isHour_ok r h
  have hm := qwithin_ok much 1 8
  unfold c29
  refine awpL_chop 3 (c1 := ?a1) (c2 := ?a2) (fun st => r.ok = true ∧ r.isH h = true ∧ wI much 1 8 = true ∧ lk st.env 3 = .ptr 0 0 ∧ lk st.env 4 = .ptr 1 0 ∧ lk st.env 5 = .ptr 2 0 ∧ lk st.env 6 = .t (vi 0) ∧ lk st.env 7 = .ptr 3 0 ∧
    st.σ = [.cells ((tw3 r.tw ++ ra7 r).map .t), .cells [.t (vi much)], .cells [.t (vi h)], .cells [.t (vi 0)]] ∧ st.df = [.call 86 [.ptr 3 0]] ∧ st.k = 0) ?hc ?_ ?_
  case hc => simp only [chop]; rfl
  · unfold tRa at hc hi ⊢
    unfold tw3 ra7 at hc hi ⊢
    simp only [List.cons_append, List.nil_append] at hc hi
    simp only [go_sem, Nat.reduceEqDiff, Nat.reduceAdd]
    refine ACallL.quiet1 hi rfl rfl rfl ?_
    cases hh : r.isH h
    · rw [hh, Bool.false_and] at hc
      simp only [go_sem, Nat.reduceEqDiff, Nat.reduceAdd, undef]
      refine ACallL.quiet1 hc rfl rfl (chkO_flat _ _) ?_
      cases hok : r.ok
      · rw [chkO_bad hok]
        simp only [go_sem, Nat.reduceEqDiff]
        refine finDL_pan rfl rfl ((dfr_pan b86 rfl).mono ?_)
        rintro σ' rfl
        exact ⟨_, rfl, [], rfl, rfl, res_mk (by unfold specLatest; rw [hok]; rfl)⟩
      · rw [chkO_rng hok]
        simp only [go_sem, Nat.reduceEqDiff]
        refine finDL_pan rfl rfl ((dfr_pan b86 rfl).mono ?_)
        rintro σ' rfl
        exact ⟨_, rfl, [], rfl, rfl, res_mk (by unfold specLatest; rw [hok, hh]; rfl)⟩
    rw [hh, Bool.true_and] at hc
    simp only [go_sem, Nat.reduceEqDiff, Nat.reduceAdd, beq_self_eq_true]
    refine ACallL.quiet1 hm rfl rfl rfl ?_
    simp only [go_sem, Nat.reduceEqDiff, Nat.reduceAdd]
    refine ACallL.quiet1 hc rfl rfl (chkO_flat _ _) ?_
    cases hok : r.ok
    · rw [chkO_bad hok]
      simp only [go_sem, Nat.reduceEqDiff]
      refine finDL_pan rfl rfl ((dfr_pan b86 rfl).mono ?_)
      rintro σ' rfl
      exact ⟨_, rfl, [], rfl, rfl, res_mk (by unfold specLatest; rw [hok]; rfl)⟩
    cases hmm : wI much 1 8
    · rw [chkO_rng hok]
      simp only [go_sem, Nat.reduceEqDiff]
      refine finDL_pan rfl rfl ((dfr_pan b86 rfl).mono ?_)
      rintro σ' rfl
      exact ⟨_, rfl, [], rfl, rfl, res_mk (by unfold specLatest; rw [hok, hh, hmm]; rfl)⟩
    rw [chkO_ok hok]
    simp only [go_sem, Nat.reduceEqDiff, Nat.reduceAdd, undef, beq_self_eq_true, and_self]
  rintro ⟨env, σ, df, k⟩ ⟨hok, hh, hmm, q3, q4, q5, q6, q7, hσ, hdf, hk⟩
  simp only at q3 q4 q5 q6 q7 hσ hdf hk
  subst hσ hdf hk
  have hr := (r.ok_iff).1 hok
  obtain ⟨g1, g2, g3⟩ := hr.H
  obtain ⟨n, rfl, hn⟩ := isH_nat hr hh
  obtain ⟨m, rfl, hmb⟩ : ∃ m : Nat, much = m ∧ 1 ≤ m ∧ m ≤ 8 := by
    have := of_decide_eq_true (show decide (1 ≤ much ∧ much ≤ 8) = true from hmm)
    exact ⟨much.toNat, by omega, by omega, by omega⟩
  have hsp : specLatest r m n = match r.late m n with
    | some a => ((a : Nat), 0)
    | none => (0, 4) := by
    unfold specLatest
    rw [hok, hh, hmm]
    rfl
  rw [hsp]
  clear hsp hc hi hm hmm hh
  -- the yard
  refine awpL_chop 1 (c1 := ?b1) (c2 := ?b2) (fun st => lk st.env 4 = .ptr 1 0 ∧ lk st.env 5 = .ptr 2 0 ∧ lk st.env 6 = .t (vi 0) ∧ lk st.env 7 = .ptr 3 0 ∧ lk st.env 8 = .ptr 5 0 ∧
    (∃ o, st.σ = [o, .cells [.t (vi m)], .cells [.t (vi n)], .cells [.t (vi 0)], .map shY [] [] 0, .cells [yE r true 4]]) ∧ st.df = [.call 86 [.ptr 3 0]] ∧ st.k = 0) ?hc2 ?_ ?_
  case hc2 => simp only [chop]; rfl
  · have h1 := @inL r hr true
    unfold tw3 ra7 at h1 ⊢
    simp only [List.cons_append, List.nil_append] at h1
    simp only [go_sem, Nat.reduceEqDiff, Nat.reduceAdd, q3]
    refine h1 rfl ?_
    simp only [go_sem, Nat.reduceEqDiff, Nat.reduceAdd, undef, q4, q5, q6, q7]
    exact ⟨_, rfl⟩
  clear q3 q4 q5 q6 q7
  rintro ⟨env, σ, df, k⟩ ⟨q4, q5, q6, q7, q8, ⟨o, hσ⟩, hdf, hk⟩
  simp only at q4 q5 q6 q7 q8 hσ hdf hk
  subst hσ hdf hk
  have gY : ∀ (kp : List Nat) (σ : List AO) (id y m' : Nat), pos? kp id = none → pos? kp y = some m' → σ[id]? = some (.cells [yE r true y]) → E.gc kp σ 12 (.ptr id 0) = .vp [yE r true m'] 0 := by
    intro kp σ id y m' h0 h1 e
    have h2 : E.gc kp σ 11 (yE r true y) = yE r true m' := gc_yE r true (n := 9) h1
    rw [E.gc]
    simp only [h0, e, List.map_cons, List.map_nil, h2, allT]
  have gV : ∀ (kp : List Nat) (σ : List AO), pos? kp 1 = some 1 → E.gc kp σ 12 (.vp [yE r true 1] 0) = .vp [yE r true 1] 0 := by
    intro kp σ h1
    have h2 : E.gc kp σ 11 (yE r true 1) = yE r true 1 := gc_yE r true (n := 9) h1
    rw [E.gc]
    simp only [List.map_cons, List.map_nil, h2, allT]
  refine awpL_chop 2 (c1 := ?d1) (c2 := ?d2) (fun st => st = { env := [(33, .t (vb false)), (32, .t (vi n)), (31, .t (vi n)), (4, .t (.ptr (.agg [vi m]) 0)), (5, .t (.ptr (.agg [vi n]) 0)), (6, .t (vi 0)), (7, .ptr 0 0), (8, .vp [yE r true 1] 0), (9, .loc 2 n)], σ := [.cells [.t (vi 0)], .map shY [] [] 0, .row 1 ((tNs (List.range n)).map .t)], df := [.call 86 [.ptr 0 0]] }) ?hc3 ?_ ?_
  case hc3 => simp only [chop]; rfl
  · simp only [go_sem]
    refine awpL_gcpE [3, 4] [4, 5, 6, 7, 8] { env := [(4, .t (.ptr (.agg [vi m]) 0)), (5, .t (.ptr (.agg [vi n]) 0)), (6, .t (vi 0)), (7, .ptr 0 0), (8, .vp [yE r true 1] 0)], σ := [.cells [.t (vi 0)], .map shY [] [] 0], df := [.call 86 [.ptr 0 0]] } ?_ rfl rfl ?_
    · refine St.gc_mk ?_ rfl rfl rfl
      simp only [List.map_cons, List.map_nil, q4, q5, q6, q7, q8]
      rw [gY [3, 4] _ 5 4 1 rfl rfl rfl]
      rfl
    have hz := tos_zero n
    have t1 : ((n : Int) ≤ 2 ^ 40) = True := by simp; omega
    have t2 : ((n : Int) * 8 ≤ 281474976710656) = True := by simp; omega
    have t3 : ((n : Int) ≤ 1099511627776) = True := by simp; omega
    have hgT : ∀ (l : List Nat) (σ : List AO) (kp : List Nat), ((tNs l).map E.t).map (E.gc kp σ 12) = (tNs l).map E.t := fun l σ kp => gc_tNs _
    simp only [go_sem, Nat.reduceEqDiff, Nat.reduceAdd, t1, t2, Int.le_refl, ← hz]
    have hlt : ((tNs (tos n 0)).map E.t).length = n := by simp [tNs, tos_len]
    simp only [go_sem, hlt]
    refine awpL_for (i := 32) (L := 31) n (fun j st => st = { env := [(32, .t (vi j)), (31, .t (vi n)), (4, .t (.ptr (.agg [vi m]) 0)), (5, .t (.ptr (.agg [vi n]) 0)), (6, .t (vi 0)), (7, .ptr 0 0), (8, .vp [yE r true 1] 0), (9, .loc 2 n)], σ := [.cells [.t (vi 0)], .map shY [] [] 0, .row 1 ((tNs (tos n j)).map .t)], df := [.call 86 [.ptr 0 0]] }) ?_
      ⟨_, Sub.gc [0, 1, 2] [32, 31, 4, 5, 6, 7, 8, 9] rfl rfl, ?_⟩ ?_ ?_
    · rintro k st rfl; exact ⟨rfl, rfl⟩
    · refine St.gc_mk ?_ ?_ rfl rfl
      · simp only [List.map_cons, List.map_nil, lk, Nat.reduceEqDiff, reduceIte, gV [0, 1, 2] _ rfl]
        rfl
      · show [AO.cells _, AO.map _ _ _ _, AO.row 1 (((tNs _).map E.t).map (E.gc _ _ _))] = _
        rw [hgT]
        rfl
    · rintro j st hj rfl
      have hw : IntKind.i64.wrap ((j : Int) + 1) = ((j + 1 : Nat) : Int) := by rw [wrap_id (by omega) (by omega)]; omega
      have hlj : ((tNs (tos n j)).map E.t).length = n := by simp [tNs, tos_len]
      have hxj : ∃ x : Nat, ((tNs (tos n j)).map E.t)[j]? = some (.t (vi (x : Nat))) := by
        refine ⟨(tos n j)[j]'(by rw [tos_len]; exact hj), ?_⟩
        rw [List.getElem?_map, List.getElem?_map, List.getElem?_eq_getElem (by rw [tos_len]; exact hj)]; rfl
      obtain ⟨x, hx1⟩ := hxj
      have hs := set_tNs (tos n j) j j
      rw [tos_set hj] at hs
      have ej : ((j : Int) < n) = True := by simp; omega
      have gZ := fun σ => hgT (tos n (j + 1)) σ [0, 1, 2]
      generalize (tNs (tos n j)).map E.t = X at *
      generalize (tNs (tos n (j + 1))).map E.t = Z at *
      simp only [go_sem, Nat.reduceEqDiff, Bool.not_false, undef, hlj, hx1, hs, ej, hw]
      refine ⟨_, Sub.gc [0, 1, 2] [32, 31, 4, 5, 6, 7, 8, 9] rfl rfl, ?_⟩
      refine St.gc_mk ?_ ?_ rfl rfl
      · simp only [List.map_cons, List.map_nil, lk, Nat.reduceEqDiff, reduceIte, gV [0, 1, 2] _ rfl]
        rfl
      · show [AO.cells _, AO.map _ _ _ _, AO.row 1 (Z.map (E.gc _ _ _))] = _
        rw [gZ]
        rfl
    · rintro st rfl
      rw [tos_all]
      simp only [go_sem]
  clear q4 q5 q6 q7 q8
  rintro st rfl
  have hlr : ((tNs (List.range n)).map E.t).length = n := by simp [tNs]
  have hgT : ∀ (l : List Nat) (σ : List AO) (kp : List Nat), ((tNs l).map E.t).map (E.gc kp σ 12) = (tNs l).map E.t := fun l σ kp => gc_tNs _
  refine awpL_chop 3 (c1 := ?e1) (c2 := ?e2) (fun st => lk st.env 4 = .t (.ptr (.agg [vi m]) 0) ∧ lk st.env 5 = .t (.ptr (.agg [vi n]) 0) ∧ lk st.env 6 = .t (vi 0) ∧ lk st.env 7 = .ptr 0 0 ∧ lk st.env 8 = .vp [yE r true 1] 0 ∧ lk st.env 11 = .loc 3 n ∧
    st.σ = [.cells [.t (vi 0)], .map shY [] [] 0, .row 1 ((tNs (List.range n)).map .t), .row 1 ((tNs (List.range n).reverse).map .t)] ∧ st.df = [.call 86 [.ptr 0 0]] ∧ st.k = 0) ?hc4 ?_ ?_
  case hc4 => simp only [chop]; rfl
  · have t1 : ((n : Int) ≤ 2 ^ 40) = True := by simp; omega
    have t2 : ((n : Int) * 8 ≤ 281474976710656) = True := by simp; omega
    have t3 : ((n : Int) ≤ 1099511627776) = True := by simp; omega
    have hrev := reverse_ok n (by omega)
    generalize hYe : (tNs (List.range n).reverse).map E.t = Y at *
    generalize hXe : (tNs (List.range n)).map E.t = X at *
    have hdr : List.drop n (List.replicate n (E.t (vi 0))) = [] := by simp
    simp only [go_sem, Nat.reduceEqDiff, Nat.reduceAdd, hlr, t1, t2, Int.le_refl, List.length_replicate, hdr, List.append_nil]
    have hrX : ∀ ρ, E.rens ρ X = X := by rw [← hXe]; exact fun ρ => ren_t ρ _
    have hrY : ∀ ρ, E.rens ρ Y = Y := by rw [← hYe]; exact fun ρ => ren_t ρ _
    refine lend1 (m := 3) hrev rfl (by simp only [AO.ren, hrX]) (by simp only [E.rens, E.ren]; rfl) ?_
    rintro o a' ⟨rfl, rfl⟩
    simp only [go_sem, Nat.reduceEqDiff, Nat.reduceAdd, Out.ren, E.ren, E.rens, AO.ren, hrY]
  rintro ⟨env, σ, df, k⟩ ⟨q4, q5, q6, q7, q8, q11, hσ, hdf, hk⟩
  simp only at q4 q5 q6 q7 q8 q11 hσ hdf hk
  subst hσ hdf hk
  have hval := values_ok (List.range n).reverse
  have hren := fun ρ => ren_y ρ r true 0
  have hfirst := first_ok (f := 110) (k := 90) (fs := []) (cs := [.ptr (.agg [.slice 1 (tNs (List.range n).reverse)]) 0]) (G := .t (.fn (.func 110) [] [.ptr (.agg [.slice 1 (tNs (List.range n).reverse)]) 0]))
    (ecs := [.vp [yE r true 0] 0, .t (.ptr (.agg [vi n]) 0), .t (.ptr (.agg [vi m]) 0)]) rfl ((List.range n).reverse.map fun n : Nat => (n : Int)) (values_gen (List.range n).reverse (by simp; omega)) (MemoY (r.f true))
    (fun x => decide (m ≤ driedN (r.f true) x.toNat n)) (fun x hx a ha => by
      obtain ⟨h, hm, rfl⟩ := List.mem_map.1 hx
      have := List.mem_range.1 (List.mem_reverse.1 hm)
      exact suit2_ok r hr m n hn h (by omega) a ha) (fun kp σ h => by
        have h1 : E.gc kp σ 10 (yE r true 0) = yE r true 0 := gc_yE r true (n := 8) (m' := 0) h
        have h2 : E.gc kp σ 11 (.vp [yE r true 0] 0) = .vp [yE r true 0] 0 := by rw [E.gc, List.map_cons, List.map_nil, h1]; rfl
        rw [List.map_cons, List.map_cons, List.map_cons, List.map_nil, h2]
        rfl) memo_gc memo_ren (fun ρ h => by simp only [E.rens, E.ren, hren, h]) rfl (.map shY [] [] 0) ⟨[], [], 0, MapY.nil _, rfl⟩
  rw [late_find (fun x => decide (m ≤ driedN (r.f true) x n))] at hfirst
  have e1 : ∀ o : Option Nat, (o.map fun h : Nat => (h : Int)).getD 0 = ((o.getD 0 : Nat) : Int) := fun o => by cases o <;> rfl
  have e2 : ∀ o : Option Nat, (o.map fun h : Nat => (h : Int)).isSome = o.isSome := fun o => by cases o <;> rfl
  rw [e1, e2, show (List.range n).reverse.find? (fun x => decide (m ≤ driedN (r.f true) x n)) = r.late m n from rfl] at hfirst
  have hgl : ∀ (kp : List Nat) (σ : List AO), pos? kp 3 = none → σ[3]? = some (.row 1 ((tNs (List.range n).reverse).map .t)) → E.gc kp σ 12 (.loc 3 n) = .t (.slice 1 (tNs (List.range n).reverse)) := by
    intro kp σ h1 h2
    exact gc_loc (n := 10) h1 h2 (by simp [tNs])
  generalize tNs (List.range n).reverse = X at *
  simp only [go_sem]
  refine awpL_gcpE [0, 1] [4, 5, 6, 7, 8, 11] { env := [(4, .t (.ptr (.agg [vi m]) 0)), (5, .t (.ptr (.agg [vi n]) 0)), (6, .t (vi 0)), (7, .ptr 0 0), (8, .vp [yE r true 1] 0), (11, .t (.slice 1 X))], σ := [.cells [.t (vi 0)], .map shY [] [] 0], df := [.call 86 [.ptr 0 0]] } ?_ rfl rfl ?_
  · refine St.gc_mk ?_ rfl rfl rfl
    simp only [List.map_cons, List.map_nil, q4, q5, q6, q7, q8, q11]
    rw [gV [0, 1] _ rfl, hgl [0, 1] _ rfl rfl]
    rfl
  simp only [go_sem, Nat.reduceEqDiff]
  refine ACallL.fresh1 hval rfl ?_
  simp only [go_sem, Nat.reduceEqDiff]
  refine lend1 (m := 1) hfirst rfl rfl (by simp only [E.rens, E.ren, hren]; rfl) ?_
  rintro o a' ⟨rfl, ha'⟩
  cases hla : r.late m n with
  | none =>
    simp only [go_sem, Nat.reduceEqDiff, Nat.reduceAdd, Out.ren, E.ren, E.rens, Option.isSome_none, Option.getD_none]
    refine ACallL.quiet1 (must_ok false 4) rfl rfl rfl ?_
    simp only [go_sem, Nat.reduceEqDiff, undef]
    refine finDL_pan rfl rfl ((dfr_pan b86 rfl).mono ?_)
    rintro σ' rfl
    exact ⟨_, rfl, [], rfl, rfl, res_mk rfl⟩
  | some x =>
    simp only [go_sem, Nat.reduceEqDiff, Nat.reduceAdd, Out.ren, E.ren, E.rens, Option.isSome_some, Option.getD_some]
    refine ACallL.quiet1 (must_ok true 4) rfl rfl rfl ?_
    simp only [go_sem, Nat.reduceEqDiff, undef]
    refine finDL_ret rfl rfl ((dfr_none b86 rfl).mono ?_)
    rintro σ' rfl
    exact ⟨_, rfl, [], rfl, rfl, res_mk rfl⟩
end Go.Proofs.Ytcpkkjbkbdmopaa

/- From when on there surely are enough. -/
namespace Go.Proofs.Ytcpkkjbkbdmopaa
open Go Go.Ab

/-! ### The first that suits, by what is only read -/
set_option maxRecDepth 8000 in
set_option maxHeartbeats 8000000 in
theorem first_okT {f k : Nat} {fs cs : List T} {G : E} {ecs : List T} (hG : G.wk = .fn (.func f) fs cs) (L : List Int) (hgen : AGen Try.prog f (fs.map .t ++ .yld :: cs.map .t) (L.map (.int .i64)) (stp true (L.map (Value.int .i64)))) (J : AO → Prop) (p : Int → Bool)
    (hs : ∀ x ∈ L, ∀ a, J a → ACall Try.prog k (E.t (vi x) :: ecs.map E.t) [a] (fun o σ' => ∃ a', (o = .ret (.t (vb (p x))) ∧ J a') ∧ σ' = [a']))
    (hgcJ : ∀ kp σ a, pos? kp 0 = some 0 → J a → AO.gc kp σ 12 a = a) (hrJ : ∀ ρ a, J a → AO.ren ρ a = a) (a : AO) (ha : J a) :
    ACall Try.prog 88 [G, .t (.agg [.fn (.func k) [] ecs])] [a] (fun o σ' => ∃ a', (o = .ret (.tup [.t (vi ((L.find? p).getD 0)), .t (vb (L.find? p).isSome)]) ∧ J a') ∧ σ' = [a']) := by
  refine ACall.walk k88 ?_
  unfold c88
  simp only [go_sem, Nat.reduceEqDiff, Nat.reduceAdd]
  refine awpL_gcpS (Sub.wk 7) ?_
  simp only [go_sem, Nat.reduceEqDiff, hG]
  refine awpL_rangeS (f := f) (fs := fs) (cs := cs) (L.map (.int .i64)) (fun i σ => ∃ a, J a ∧ σ = [a, .cells [.t (.fn (.func k) [] ecs)], .cells [.t (vi 0)], .cells [.t (vb false)]] ∧ ∀ x ∈ L.take i, p x = false)
    (fun e σ => e = .ret ∧ ∃ a x, J a ∧ L.find? p = some x ∧ σ = [a, .cells [.t (.fn (.func k) [] ecs)], .cells [.t (vi x)], .cells [.t (vb true)]]) [0, 1, 2, 3] [3, 4, 5]
    [(3, .ptr 1 0), (4, .ptr 2 0), (5, .ptr 3 0)] [] rfl rfl rfl rfl hgen rfl rfl ⟨a, ha, ?_, by simp⟩ ?_ ?_ ?_
  · show [AO.gc _ _ _ a, AO.cells _, AO.cells _, AO.cells _] = _
    rw [hgcJ _ _ a rfl ha]
    rfl
  · rintro l j v σ hv ⟨a, ha, rfl, hno⟩
    rw [List.getElem?_map] at hv
    cases hx : L[j]? with
    | none => rw [hx] at hv; cases hv
    | some x =>
      rw [hx] at hv
      cases hv
      have hcall := hs x (List.mem_of_getElem? hx) a ha
      have htk : L.take (j + 1) = L.take j ++ [x] := by rw [List.take_add_one, hx]; rfl
      simp only [go_sem, Nat.reduceEqDiff, Nat.reduceAdd, T.ofV]
      refine lend1 (m := 0) hcall rfl (hrJ _ a ha).symm (by simp only [E.rens, E.ren, ren_t]) ?_
      rintro o a' ⟨rfl, ha'⟩
      have hrj := hrJ (lendR [0] 4) a' ha'
      cases hp : p x
      · simp only [go_sem, Nat.reduceEqDiff, Nat.reduceAdd, Out.ren, E.ren]
        refine ⟨[0, 1, 2, 3], rfl, rfl, a', ha', ?_, ?_⟩
        · show [AO.gc _ _ _ (AO.ren (lendR [0] 4) a'), AO.cells _, AO.cells _, AO.cells _] = _
          rw [hrj, hgcJ _ _ a' rfl ha']
          rfl
        · intro y hy
          rw [htk] at hy
          rcases List.mem_append.1 hy with h | h
          · exact hno y h
          · simp at h; rw [h]; exact hp
      · simp only [go_sem, Nat.reduceEqDiff, Nat.reduceAdd, undef, Out.ren, E.ren]
        refine ⟨[0, 1, 2, 3], rfl, rfl, a', x, ha', ?_, ?_⟩
        · have hd : L = L.take j ++ x :: L.drop (j + 1) := by
            obtain ⟨hj, hxj⟩ := List.getElem?_eq_some_iff.1 hx
            rw [← hxj, ← List.drop_eq_getElem_cons hj, List.take_append_drop]
          rw [hd, List.find?_append, List.find?_eq_none.2 (fun y hy => by rw [hno y hy]; simp), List.find?_cons, hp]
          rfl
        · show [AO.gc _ _ _ (AO.ren (lendR [0] 4) a'), AO.cells _, AO.cells _, AO.cells _] = _
          rw [hrj, hgcJ _ _ a' rfl ha']
          rfl
  · rintro σ ⟨a, ha, rfl, hno⟩
    rw [List.length_map, List.take_length] at hno
    have hf : L.find? p = none := List.find?_eq_none.2 fun y hy => by rw [hno y hy]; simp
    rw [hf]
    simp only [go_sem, Nat.reduceEqDiff, undef]
    refine finL_ret [0] ⟨rfl, rfl, rfl, rfl, _, rfl, a, ⟨rfl, ha⟩, ?_⟩
    show [AO.gc _ _ _ a] = _
    rw [hgcJ _ _ a rfl ha]
  · rintro e σ ⟨rfl, a, x, ha, hf, rfl⟩
    rw [hf]
    simp only [go_sem]
    refine finL_ret [0] ⟨rfl, rfl, rfl, rfl, _, rfl, a, ⟨rfl, ha⟩, ?_⟩
    show [AO.gc _ _ _ a] = _
    rw [hgcJ _ _ a rfl ha]

set_option maxRecDepth 8000 in
theorem suit3_ok (r : Ra) (hr : r.OK) (hT : isT r.tw = true) (many : Int) (h : Nat) (hh : h ≤ r.H) (a : AO) (ha : MemoY (r.f true) a) :
    ACall Try.prog 97 (E.t (vi h) :: ([.ptr (tRa r) 0, .ptr (.agg [vi many]) 0] : List T).map E.t) [a] (fun o σ' => ∃ a', (o = .ret (.t (vb (decide (many ≤ max 0 (r.ready h).1)))) ∧ MemoY (r.f true) a') ∧ σ' = [a']) := by
  refine ACall.walk k97 ?_
  have hrd := ready_ok r hr h hh
  rw [hT, if_pos rfl] at hrd
  unfold c97
  unfold tRa at hrd ⊢
  unfold tw3 ra7 at hrd ⊢
  simp only [List.cons_append, List.nil_append] at hrd
  have hge : decide (max 0 (r.ready h).1 ≥ many) = decide (many ≤ max 0 (r.ready h).1) := decide_eq_decide.2 Iff.rfl
  simp only [go_sem, Nat.reduceEqDiff, Nat.reduceAdd]
  refine ACallL.quiet1 hrd rfl rfl rfl ?_
  simp only [tS, go_sem, Nat.reduceEqDiff, Nat.reduceAdd, Nat.reduceLeDiff, hge]
  exact finL_ret [0] ⟨rfl, rfl, rfl, rfl, _, rfl, _, ⟨rfl, ha⟩, by show [AO.gc _ _ _ a] = _; rw [memo_gc _ _ a rfl ha]⟩

set_option maxRecDepth 8000 in
set_option maxHeartbeats 8000000 in
theorem WhenT_ok (r : Ra) (many : Int) (hL : Lens r) (hTT : r.ok = true → isT r.tw = true) : ACall Try.prog 33 [.t (tRa r), .t (vi many)] [] (res (oneE (specWhen r many).1 (specWhen r many).2)) := by
  refine ACall.walkD k33 ?_
  have hc := check_ok r (isMany many) hL.b hL.l
  have hm := isMany_ok many
  unfold c33
  unfold tRa at hc ⊢
  unfold tw3 ra7 at hc ⊢
  simp only [List.cons_append, List.nil_append] at hc
  simp only [go_sem, Nat.reduceEqDiff, Nat.reduceAdd]
  refine ACallL.quiet1 hm rfl rfl rfl ?_
  simp only [go_sem, Nat.reduceEqDiff, Nat.reduceAdd]
  refine ACallL.quiet1 hc rfl rfl (chkO_flat _ _) ?_
  cases hok : r.ok
  · rw [chkO_bad hok]
    simp only [go_sem, Nat.reduceEqDiff]
    refine finDL_pan rfl rfl ((dfr_pan b95 rfl).mono ?_)
    rintro σ' rfl
    exact ⟨_, rfl, [], rfl, rfl, res_mk (by unfold specWhen ans; rw [hok]; rfl)⟩
  cases hmm : isMany many
  · rw [chkO_rng hok]
    simp only [go_sem, Nat.reduceEqDiff]
    refine finDL_pan rfl rfl ((dfr_pan b95 rfl).mono ?_)
    rintro σ' rfl
    exact ⟨_, rfl, [], rfl, rfl, res_mk (by unfold specWhen ans; rw [hok, hmm]; rfl)⟩
  have hr := (r.ok_iff).1 hok
  have hT := hTT hok
  obtain ⟨g1, g2, g3⟩ := hr.H
  have hsp : specWhen r many = match r.when many with
    | some a => ((a : Nat), 0)
    | none => (0, 4) := by
    unfold specWhen ans
    rw [hok, hmm, hT]
    rfl
  rw [hsp, chkO_ok hok]
  have hren := fun ρ => ren_y ρ r true 0
  have h1 := @inL r hr true
  have hend := qends_ok r true 0 (.map shY [] [] 0) (fun kp σ h => rfl)
  have hfirst := first_okT (f := 111) (k := 97) (fs := []) (cs := [.ptr (.agg [vi 0]) 0, .ptr (.agg [yT r true]) 0]) (G := .fn (.func 111) [] [.t (.ptr (.agg [vi 0]) 0), .vp [yE r true 0] 0])
    (ecs := [.ptr (tRa r) 0, .ptr (.agg [vi many]) 0]) rfl (hoursI r.H 0) (ends_gen r hr true 0 (by omega)) (MemoY (r.f true))
    (fun x => decide (many ≤ max 0 (r.ready x.toNat).1)) (fun x hx a ha => by
      unfold hoursI at hx
      obtain ⟨h, hm, rfl⟩ := List.mem_map.1 hx
      exact suit3_ok r hr hT many h (mem_hoursL.1 hm).2 a ha) memo_gc memo_ren (.map shY [] [] 0) ⟨[], [], 0, MapY.nil _, rfl⟩
  rw [hours_find (fun x => decide (many ≤ max 0 (r.ready x).1))] at hfirst
  have e1 : ∀ o : Option Nat, (o.map fun h : Nat => (h : Int)).getD 0 = ((o.getD 0 : Nat) : Int) := fun o => by cases o <;> rfl
  have e2 : ∀ o : Option Nat, (o.map fun h : Nat => (h : Int)).isSome = o.isSome := fun o => by cases o <;> rfl
  rw [e1, e2, show (hoursL r.H 0).find? (fun x => decide (many ≤ max 0 (r.ready x).1)) = r.when many from rfl] at hfirst
  unfold tRa at hfirst
  unfold tw3 ra7 at hfirst h1
  simp only [List.cons_append, List.nil_append] at hfirst h1
  generalize r.when many = F at *
  simp only [go_sem, Nat.reduceEqDiff]
  refine awpL_gcpE [2] [2, 3, 4, 5] { env := [(2, .t (.ptr (tRa r) 0)), (3, .t (.ptr (.agg [vi many]) 0)), (4, .t (vi 0)), (5, .ptr 0 0)], σ := [.cells [.t (vi 0)]], df := [.call 95 [.ptr 0 0]] } ?_ rfl rfl ?_
  · exact St.gc_mk rfl rfl rfl rfl
  unfold tRa tw3 ra7
  simp only [go_sem, Nat.reduceEqDiff, Nat.reduceAdd]
  refine h1 rfl ?_
  simp only [go_sem, Nat.reduceEqDiff]
  refine lend1 (m := 1) hend rfl rfl (by simp only [E.rens, E.ren, hren]; rfl) ?_
  rintro o a' ⟨rfl, rfl⟩
  simp only [go_sem, Nat.reduceEqDiff, Nat.reduceAdd, Out.ren, E.ren, E.rens, hren]
  refine lend1 (m := 1) hfirst rfl rfl (by simp only [E.rens, E.ren, hren]; rfl) ?_
  rintro o a' ⟨rfl, ha'⟩
  cases F with
  | none =>
    simp only [go_sem, Nat.reduceEqDiff, Nat.reduceAdd, Out.ren, E.ren, E.rens, Option.isSome_none, Option.getD_none]
    refine ACallL.quiet1 (must_ok false 4) rfl rfl rfl ?_
    simp only [go_sem, Nat.reduceEqDiff, undef]
    refine finDL_pan rfl rfl ((dfr_pan b95 rfl).mono ?_)
    rintro σ' rfl
    exact ⟨_, rfl, [], rfl, rfl, res_mk rfl⟩
  | some x =>
    simp only [go_sem, Nat.reduceEqDiff, Nat.reduceAdd, Out.ren, E.ren, E.rens, Option.isSome_some, Option.getD_some]
    refine ACallL.quiet1 (must_ok true 4) rfl rfl rfl ?_
    simp only [go_sem, Nat.reduceEqDiff, undef]
    refine finDL_ret rfl rfl ((dfr_none b95 rfl).mono ?_)
    rintro σ' rfl
    exact ⟨_, rfl, [], rfl, rfl, res_mk rfl⟩
end Go.Proofs.Ytcpkkjbkbdmopaa
