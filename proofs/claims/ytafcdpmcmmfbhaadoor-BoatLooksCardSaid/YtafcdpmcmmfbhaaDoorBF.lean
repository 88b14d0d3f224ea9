/- Proved here: laws that the statements need (BoC1w, BoS). No conditions but those that each law states. -/
import Derived.Test.YtafcdpmcmmfbhaaDoorFL
import Derived.Test.YtafcdpmcmmfbhaaDoorProg
import Derived.Test.YtafcdpmcmmfbhaaDoorBE
import Derived.Test.YtafcdpmcmmfbhaaDoorFN

set_option linter.unusedSimpArgs false
set_option linter.unusedVariables false

/- Compiled code of functions, printed by program; each is checked to be the program's. No conditions. -/
namespace Go.Proofs.YtafcdpmcmmfbhaaDoor
open Go Go.Ab
/-- dipworks/boat.Wrong -/
def c30 : AC :=
 .seq (.reg [⟨(some 2), none, .box (.tmp 0)⟩,
 ⟨(some 3), none, .box (.tmp 1)⟩,
 ⟨(some 4), none, .mov (.lit (.int .i64 0))⟩,
 ⟨(some 5), none, .alloc [(.int .i64 0)]⟩])
 (.seq (.reg [⟨none, none, .defer 48 [(.tmp 5)]⟩])
 (.seq (.draw (.step ⟨(some 17), none, .load true 5 (.tmp 2)⟩ (
 .step ⟨(some 18), none, .load true 5 (.tmp 2)⟩ (
 .step ⟨(some 19), none, .load false 1 (.tmp 3)⟩ (
 .ev ⟨(some 20), none, .call (.fn 50) [(.tmp 18), (.tmp 19)]⟩ [⟨(some 17), none, .load true 5 (.tmp 2)⟩] (
 .ev ⟨(some 21), none, .call (.fn 49) [(.tmp 17), (.tmp 20)]⟩ [⟨(some 19), none, .load false 1 (.tmp 3)⟩, ⟨(some 18), none, .load true 5 (.tmp 2)⟩] (
 .ev ⟨(some 6), none, .alloc [(.pointer none)]⟩ [⟨(some 19), none, .load false 1 (.tmp 3)⟩, ⟨(some 18), none, .load true 5 (.tmp 2)⟩, ⟨(some 17), none, .load true 5 (.tmp 2)⟩] (
 .ev ⟨none, none, .store 1 (.tmp 6) (.tmp 21)⟩ [] (
 .done)
 (.stop))
 (.stop))
 (.ev ⟨(some 6), none, .alloc [(.pointer none)]⟩ [⟨(some 19), none, .load false 1 (.tmp 3)⟩, ⟨(some 18), none, .load true 5 (.tmp 2)⟩, ⟨(some 17), none, .load true 5 (.tmp 2)⟩] (
 .ev ⟨(some 21), none, .call (.fn 49) [(.tmp 17), (.tmp 20)]⟩ [⟨(some 19), none, .load false 1 (.tmp 3)⟩, ⟨(some 18), none, .load true 5 (.tmp 2)⟩] (
 .ev ⟨none, none, .store 1 (.tmp 6) (.tmp 21)⟩ [] (
 .done)
 (.stop))
 (.stop))
 (.stop)))
 (.ev ⟨(some 6), none, .alloc [(.pointer none)]⟩ [⟨(some 19), none, .load false 1 (.tmp 3)⟩, ⟨(some 18), none, .load true 5 (.tmp 2)⟩, ⟨(some 17), none, .load true 5 (.tmp 2)⟩] (
 .ev ⟨(some 20), none, .call (.fn 50) [(.tmp 18), (.tmp 19)]⟩ [⟨(some 17), none, .load true 5 (.tmp 2)⟩] (
 .ev ⟨(some 21), none, .call (.fn 49) [(.tmp 17), (.tmp 20)]⟩ [⟨(some 19), none, .load false 1 (.tmp 3)⟩, ⟨(some 18), none, .load true 5 (.tmp 2)⟩] (
 .ev ⟨none, none, .store 1 (.tmp 6) (.tmp 21)⟩ [] (
 .done)
 (.stop))
 (.stop))
 (.stop))
 (.stop)))))))
 (.seq (.seq (.gcp)
 (.reg [⟨(some 22), none, .faddr 4 (.tmp 2)⟩,
 ⟨(some 23), none, .load false 1 (.tmp 22)⟩,
 ⟨(some 24), none, .load false 1 (.tmp 3)⟩,
 ⟨(some 25), none, .iaddr 1 (.tmp 23) (.tmp 24)⟩,
 ⟨(some 26), none, .load false 1 (.tmp 25)⟩,
 ⟨(some 27), none, .len (.tmp 26)⟩,
 ⟨(some 7), none, .mov (.tmp 27)⟩]))
 (.seq (.reg [⟨(some 28), none, .mov (.tmp 7)⟩,
 ⟨(some 29), none, .bin .add (.tmp 28) (.lit (.int .i64 1))⟩,
 ⟨(some 30), none, .mks 1 24 (.slice none 0 0) (.tmp 29) (.tmp 29)⟩,
 ⟨(some 8), none, .mov (.tmp 30)⟩])
 (.seq (.seq (.reg [⟨(some 31), none, .mov (.tmp 7)⟩,
 ⟨(some 32), none, .bin .shl (.lit (.int .i64 1)) (.tmp 31)⟩,
 ⟨(some 33), none, .mov (.lit (.int .i64 0))⟩])
 (.block 0 (.loop (.seq (.reg [⟨(some 34), none, .bin .lss (.tmp 33) (.tmp 32)⟩])
 (.seq (.cond (.tmp 34) (.skip)
 (.exit 0))
 (.seq (.block 1 (.seq (.reg [⟨(some 35), none, .mov (.tmp 33)⟩,
 ⟨(some 9), none, .mov (.tmp 35)⟩])
 (.seq (.reg [⟨(some 36), none, .mov (.tmp 9)⟩,
 ⟨(some 37), none, .conv .u64 (.tmp 36)⟩,
 ⟨(some 38), none, .call (.fn 74) [(.tmp 37)]⟩,
 ⟨(some 10), none, .mov (.tmp 38)⟩])
 (.reg [⟨(some 39), none, .mov (.tmp 8)⟩,
 ⟨(some 40), none, .mov (.tmp 10)⟩,
 ⟨(some 41), none, .mov (.tmp 8)⟩,
 ⟨(some 42), none, .mov (.tmp 10)⟩,
 ⟨(some 43), none, .iaddr 1 (.tmp 41) (.tmp 42)⟩,
 ⟨(some 44), none, .load false 1 (.tmp 43)⟩,
 ⟨(some 45), none, .mov (.tmp 9)⟩,
 ⟨(some 46), none, .bslice 1 (.int .i64 0) 1 [(0, (.tmp 45))]⟩,
 ⟨(some 47), none, .app 1 8 (.tmp 44) (.tmp 46)⟩,
 ⟨(some 48), none, .iaddr 1 (.tmp 39) (.tmp 40)⟩,
 ⟨none, none, .store 1 (.tmp 48) (.tmp 47)⟩]))))
 (.reg [⟨(some 49), none, .bin .add (.tmp 33) (.lit (.int .i64 1))⟩,
 ⟨(some 33), none, .mov (.tmp 49)⟩])))))))
 (.seq (.reg [⟨(some 50), none, .mov (.tmp 7)⟩,
 ⟨(some 51), none, .bin .shl (.lit (.int .i64 1)) (.tmp 50)⟩,
 ⟨(some 52), none, .mks 1 8 (.int .i64 0) (.lit (.int .i64 0)) (.tmp 51)⟩,
 ⟨(some 11), none, .mov (.tmp 52)⟩])
 (.seq (.seq (.reg [⟨(some 53), none, .mov (.tmp 8)⟩,
 ⟨(some 54), none, .len (.tmp 53)⟩,
 ⟨(some 55), none, .mov (.lit (.int .i64 0))⟩])
 (.block 2 (.loop (.seq (.reg [⟨(some 56), none, .bin .lss (.tmp 55) (.tmp 54)⟩])
 (.seq (.cond (.tmp 56) (.skip)
 (.exit 2))
 (.seq (.block 3 (.seq (.reg [⟨(some 57), none, .iaddr 1 (.tmp 53) (.tmp 55)⟩,
 ⟨(some 58), none, .load false 1 (.tmp 57)⟩,
 ⟨(some 13), none, .mov (.tmp 58)⟩])
 (.seq (.reg [⟨(some 59), none, .mov (.tmp 13)⟩,
 ⟨(some 60), none, .len (.tmp 59)⟩,
 ⟨(some 61), none, .mks 1 8 (.int .i64 0) (.tmp 60) (.tmp 60)⟩,
 ⟨(some 14), none, .mov (.tmp 61)⟩])
 (.seq (.reg [⟨(some 62), none, .mov (.tmp 14)⟩,
 ⟨(some 63), none, .mov (.tmp 13)⟩,
 ⟨(some 64), none, .cpy 1 (.tmp 62) (.tmp 63)⟩])
 (.reg [⟨(some 65), none, .mov (.tmp 11)⟩,
 ⟨(some 66), none, .mov (.tmp 14)⟩,
 ⟨(some 67), none, .app 1 8 (.tmp 65) (.tmp 66)⟩,
 ⟨(some 11), none, .mov (.tmp 67)⟩])))))
 (.reg [⟨(some 68), none, .bin .add (.tmp 55) (.lit (.int .i64 1))⟩,
 ⟨(some 55), none, .mov (.tmp 68)⟩])))))))
 (.seq (.seq (.gcp)
 (.reg [⟨(some 70), none, .mov (.tmp 11)⟩,
 ⟨(some 71), none, .mkfn (.func 75) [] [(.tmp 6), (.tmp 3)]⟩,
 ⟨(some 72), none, .build [.nilFunc] [(0, 1, (.tmp 71))]⟩,
 ⟨(some 73), none, .call (.fn 69) [(.tmp 70), (.tmp 72)]⟩,
 ⟨(some 69), none, .mov (.tmp 73)⟩,
 ⟨(some 74), none, .ext (.tmp 69) 0⟩,
 ⟨(some 75), none, .ext (.tmp 69) 1⟩,
 ⟨(some 15), none, .mov (.tmp 74)⟩,
 ⟨(some 16), none, .mov (.tmp 75)⟩]))
 (.seq (.reg [⟨(some 76), none, .mov (.tmp 15)⟩,
 ⟨(some 77), none, .bin .neq (.tmp 76) (.lit (.int .i64 0))⟩,
 ⟨(some 78), none, .call (.fn 73) [(.tmp 77), (.lit (.int .i64 4))]⟩])
 (.seq (.reg [⟨(some 79), none, .mov (.tmp 15)⟩,
 ⟨(some 4), none, .mov (.tmp 79)⟩,
 ⟨none, none, .store 1 (.tmp 5) (.lit (.int .i64 0))⟩])
 (.ret)))))))))))
theorem k30 : FnC Tryd.prog 30 80 [4, 5] [3, 19] [.tmp 4, .cell 5 false 1] c30 2 := ⟨Tryd.f30, _, Tryd.func30, rfl, by decide, rfl, by decide, by kernel_rfl, by kernel_rfl⟩
end Go.Proofs.YtafcdpmcmmfbhaaDoor

/- Package boat: which sightings must be wrong. -/
namespace Go.Proofs.YtafcdpmcmmfbhaaDoor
open Go Go.Ab

def sizesB (n k : Nat) : List Nat := (List.range n).filter fun s => decide (size s = k)
def setsB (many : Nat) : List Nat := (List.range (many + 1)).flatMap (sizesB (2 ^ many))
def wrongR (b : Bo) (boat : Nat) : Nat := ((setsB (b.seen.getD boat []).length).find? fun s => canQ b (outQ b boat s)).getD 0
def wrongV (b : Bo) (B : Nat) : Int × Int := if wrongR b B = 0 then (0, 4) else ((wrongR b B : Nat), 0)
def specWrong (b : Bo) (boat : Int) : Int × Int := if b.ok then (if b.isBoat boat then wrongV b boat.toNat else (0, 2)) else (0, 1)

theorem sizesB_succ (n k : Nat) : sizesB (n + 1) k = if size n = k then sizesB n k ++ [n] else sizesB n k := by
  unfold sizesB
  rw [List.range_succ, List.filter_append]
  by_cases h : size n = k
  · rw [if_pos h]; simp [h]
  · rw [if_neg h]; simp [h]
theorem size_le5' : ∀ many ≤ 5, ∀ s < 2 ^ many, size s ≤ many := by decide +kernel

abbrev eN (l : List Nat) : List E := (l.map fun z : Nat => vi z).map E.t
theorem sizesB_len (n k : Nat) : (sizesB n k).length ≤ n := by
  unfold sizesB
  exact Nat.le_trans (List.length_filter_le _ _) (by simp)
def rowsB (many j : Nat) : List AO := .row 1 ((List.range (many + 1)).map fun k => .loc (3 + k) (sizesB j k).length) :: (List.range (many + 1)).map fun k => .row 1 (eN (sizesB j k))
theorem rowsB_len (many j : Nat) : (rowsB many j).length = many + 2 := by simp [rowsB]
def szT (many : Nat) : List T := (List.range (many + 1)).map fun k => .slice 1 ((sizesB (2 ^ many) k).map fun z : Nat => vi z)
def catB (many j : Nat) : List Nat := (List.range j).flatMap (sizesB (2 ^ many))
theorem gc_locs {kp : List Nat} {σ : List AO} {n id m es : Nat} {xs : List E} {ts : List T} (h : pos? kp id = none) (ho : σ[id]? = some (.row es xs)) (hm : m = xs.length) (hx : xs.map (E.gc kp σ n) = ts.map E.t) : E.gc kp σ (n + 1) (.loc id m) = .t (.slice es ts) := by
  rw [E.gc]
  simp only [h, ho, hm, if_true, hx, allT_t]
theorem gc_rows (many : Nat) (a c : AO) : E.gc [0, 1, many + 4] (a :: c :: (rowsB many (2 ^ many) ++ [AO.row 1 []])) 12 (.loc 2 (many + 1)) = .t (.slice 1 (szT many)) := by
  refine gc_locs (xs := (List.range (many + 1)).map fun k => .loc (3 + k) (sizesB (2 ^ many) k).length) (by simp [pos?]) (by simp [rowsB]) (by simp) ?_
  unfold szT
  rw [List.map_map, List.map_map]
  refine List.map_congr_left fun k hk => ?_
  have hk := List.mem_range.1 hk
  refine gc_loc (by rw [pos?, if_neg (by omega), pos?, if_neg (by omega), pos?, if_neg (by omega)]; rfl) (es := 1) (xs := (sizesB (2 ^ many) k).map fun z : Nat => vi z) ?_ (by simp)
  rw [show 3 + k = k + 1 + 1 + 1 by omega]
  simp [rowsB, List.getElem?_append, hk]
theorem gc_last (many : Nat) (a c : AO) : E.gc [0, 1, many + 4] (a :: c :: (rowsB many (2 ^ many) ++ [AO.row 1 []])) 12 (.loc (many + 2 + 1 + 1) 0) = .loc 2 0 := by
  simp [E.gc, pos?]
theorem last_row (many : Nat) (a c x : AO) : (a :: c :: (rowsB many (2 ^ many) ++ [x])).getD (many + 4) (.raw (.pending #[] 0)) = x := by
  have h : (rowsB many (2 ^ many) ++ [x])[many + 2]? = some x := by rw [List.getElem?_append_right (by rw [rowsB_len]; exact Nat.le_refl _), rowsB_len]; simp
  rw [List.getD_eq_getElem?_getD, List.getElem?_cons_succ, List.getElem?_cons_succ, h]; rfl
theorem szT_at {many j : Nat} (h : j < many + 1) : (szT many)[j]? = some (.slice 1 ((sizesB (2 ^ many) j).map fun z : Nat => vi z)) := by
  simp [szT, h]
theorem catB_succ (many j : Nat) : catB many (j + 1) = catB many j ++ sizesB (2 ^ many) j := by
  unfold catB
  rw [List.range_succ, List.flatMap_append]; simp
theorem catB_len (many j : Nat) (h : j ≤ many) : (catB many (j + 1)).length ≤ (setsB many).length := by
  have : ∀ d, (catB many (j + 1)).length ≤ (catB many (j + 1 + d)).length := fun d => by
    induction d with
    | zero => exact Nat.le_refl _
    | succ d ih => rw [show j + 1 + (d + 1) = (j + 1 + d) + 1 by omega, catB_succ many (j + 1 + d), List.length_append]; omega
  have := this (many - j)
  rw [show j + 1 + (many - j) = many + 1 by omega] at this
  exact this
theorem setsB_len : ∀ many ≤ 5, (setsB many).length ≤ 32 := by decide +kernel
theorem setsB_lt {many s : Nat} (h : s ∈ setsB many) : s < 2 ^ many := by
  obtain ⟨k, _, h⟩ := List.mem_flatMap.1 h
  exact List.mem_range.1 (List.mem_filter.1 h).1
def LpA (b : Bo) (B many j : Nat) (l : List (Nat × E)) (st : St) : Prop := st = { env := l ++ [(33, .t (vi j)), (32, .t (vi ((2 ^ many : Nat)))), (3, .t (boxB B)), (4, .t (vi 0)), (5, .ptr 0 0), (6, .vp [waE b 1] 0), (7, .t (vi many)), (8, .loc 2 (many + 1))], σ := .cells [.t (vi 0)] :: .map shQ [] [] 0 :: rowsB many j, df := [.call 48 [.ptr 0 0]], k := 0 }
def WrMid (b : Bo) (B many : Nat) (s : St) : Prop := lk s.env 3 = .t (boxB B) ∧ lk s.env 4 = .t (vi 0) ∧ lk s.env 5 = .ptr 0 0 ∧ lk s.env 6 = .vp [waE b 1] 0 ∧ lk s.env 7 = .t (vi many) ∧ s.σ = [.cells [.t (vi 0)], .map shQ [] [] 0] ∧ s.df = [.call 48 [.ptr 0 0]] ∧ s.k = 0

set_option maxRecDepth 8000 in
set_option maxHeartbeats 8000000 in
theorem Wrong_ok (b : Bo) (hl : Lens b) (boat : Int) : ACall Tryd.prog 30 [.t (.agg (bo5 b)), .t (vi boat)] [] (res (oneE (specWrong b boat).1 (specWrong b boat).2)) := by
  refine ACall.walkD k30 ?_
  have h50 := isBoat_ok b hl boat
  have hop := fun is (σ : List AO) (R : Lz (Out → List AO → Prop)) h1 h2 h3 => openL (σ := σ) (R := R) b is hl h1 h2 h3
  unfold c30
  unfold bo5 at h50 hop ⊢
  have good : ∀ (hok : b.ok = true) (hB : b.isBoat boat = true), specWrong b boat = wrongV b boat.toNat := fun hok hB => by
    unfold specWrong
    rw [hok, hB]; rfl
  have e1 : b.ok = false → specWrong b boat = (0, 1) := fun h => by unfold specWrong; rw [h]; rfl
  have e2 : b.ok = true → b.isBoat boat = false → specWrong b boat = (0, 2) := fun h h2 => by unfold specWrong; rw [h, h2]; rfl
  generalize specWrong b boat = SB at *
  refine awpL_chop 4 (c1 := ?a1) (c2 := ?a2) (fun s => ∃ B : Nat, boat = B ∧ b.OK ∧ B < b.seen.length ∧ SB = wrongV b B ∧ WrMid b B (b.seen.getD B []).length s) ?hc ?_ ?_
  case hc => simp only [chop]; rfl
  · simp only [go_sem, Nat.reduceEqDiff, Nat.reduceAdd]
    repeat' (first | refine AndL.mk ?_ ?_ | refine ACallL.quiet1 h50 rfl rfl rfl ?_ | simp only [go_sem, Nat.reduceEqDiff, Nat.reduceAdd])
    all_goals
      refine hop _ _ _ (fun hok => ?_) (fun hok hB => ?_) (fun hok hB => ?_)
      · rw [e1 hok]
        simp only [go_sem, Nat.reduceEqDiff]
        refine finDL_pan rfl rfl ((answer_pan rfl).mono fun σ' h => ?_)
        subst h
        exact ⟨_, rfl, [], rfl, rfl, res_mk rfl⟩
      · rw [e2 hok hB]
        simp only [go_sem, Nat.reduceEqDiff]
        refine finDL_pan rfl rfl ((answer_pan rfl).mono fun σ' h => ?_)
        subst h
        exact ⟨_, rfl, [], rfl, rfl, res_mk rfl⟩
      have hb := (b.ok_iff).1 hok
      obtain ⟨b1, b2⟩ := isBoat_iff.1 hB
      have hs := good hok hB
      obtain ⟨B, rfl⟩ : ∃ n : Nat, boat = n := ⟨boat.toNat, by omega⟩
      rw [Int.toNat_natCast] at hs
      clear good e1 e2
      have hBl : B < b.seen.length := by omega
      have hse : b.seen[B]? = some (b.seen.getD B []) := by rw [List.getD_eq_getElem?_getD, List.getElem?_eq_getElem hBl]; rfl
      repeat' (first | refine AndL.mk ?_ ?_ | simp only [go_sem, Nat.reduceEqDiff, Nat.reduceAdd, undef, undef])
      all_goals
        first
        | refine awpL_gcpE [2, 3] [2, 3, 4, 5, 6] { env := [(2, .t (.ptr (.agg (bo5 b)) 0)), (3, .t (boxB B)), (4, .t (vi 0)), (5, .ptr 0 0), (6, .vp [waE b 1] 0)], σ := [.cells [.t (vi 0)], .map shQ [] [] 0], df := [.call 48 [.ptr 0 0]], k := 0 } (St.gc_mk rfl rfl rfl rfl) rfl rfl ?_
        | refine awpL_gcpE [2, 4] [2, 3, 4, 5, 6] { env := [(2, .t (.ptr (.agg (bo5 b)) 0)), (3, .t (boxB B)), (4, .t (vi 0)), (5, .ptr 0 0), (6, .vp [waE b 1] 0)], σ := [.cells [.t (vi 0)], .map shQ [] [] 0], df := [.call 48 [.ptr 0 0]], k := 0 } (St.gc_mk rfl rfl rfl rfl) rfl rfl ?_
        simp only [go_sem, Nat.reduceEqDiff, Nat.reduceAdd, List.length_map, hse, List.getElem?_map, Option.map_some, tSis, bo5]
        refine ⟨B, rfl, hb, hBl, hs, ?_⟩
        exact ⟨rfl, rfl, rfl, rfl, rfl, rfl, rfl, rfl⟩
  clear good e1 e2 hop h50
  rintro ⟨env, σ, df, k⟩ ⟨B, rfl, hb, hBl, hs, q3, q4, q5, q6, q7, hσ, hdf, hk⟩
  simp only at q3 q4 q5 q6 q7 hσ hdf hk
  subst hσ hdf hk hs
  have hmany : (b.seen.getD B []).length ≤ 5 := hb.lens _ (by rw [List.getD_eq_getElem?_getD, List.getElem?_eq_getElem hBl]; exact List.getElem_mem hBl)
  unfold wrongV wrongR
  generalize (b.seen.getD B []).length = many at *
  have w1 : IntKind.i64.wrap 1 = 1 := by decide
  have w2 : IntKind.i64.wrap 2 = 2 := by decide
  have w3 : IntKind.i64.wrap 3 = 3 := by decide
  have w4 : IntKind.i64.wrap 4 = 4 := by decide
  have w5 : IntKind.i64.wrap 5 = 5 := by decide
  have w6 : IntKind.i64.wrap 6 = 6 := by decide
  have v0 : IntKind.i64.wrap (1 * 2 ^ min 0 64) = 1 := by decide
  have v1 : IntKind.i64.wrap (1 * 2 ^ min 1 64) = 2 := by decide
  have v2 : IntKind.i64.wrap (1 * 2 ^ min 2 64) = 4 := by decide
  have v3 : IntKind.i64.wrap (1 * 2 ^ min 3 64) = 8 := by decide
  have v4 : IntKind.i64.wrap (1 * 2 ^ min 4 64) = 16 := by decide
  have v5 : IntKind.i64.wrap (1 * 2 ^ min 5 64) = 32 := by decide
  have t2 : Int.toNat 2 = 2 := rfl
  have t3 : Int.toNat 3 = 3 := rfl
  have t4 : Int.toNat 4 = 4 := rfl
  have t5 : Int.toNat 5 = 5 := rfl
  have t6 : Int.toNat 6 = 6 := rfl
  refine awpL_chop 2 (c1 := ?b1) (c2 := ?b2) (LpA b B many (2 ^ many) [(34, .t (vb false))]) ?hd ?_ ?_
  case hd => simp only [chop]; rfl
  · have hm6 : many = 0 ∨ many = 1 ∨ many = 2 ∨ many = 3 ∨ many = 4 ∨ many = 5 := by omega
    rcases hm6 with rfl | rfl | rfl | rfl | rfl | rfl
    -- cases
    · simp only [go_sem, Nat.reduceEqDiff, Nat.reduceAdd, Int.reduceLT, Int.reduceLE, Int.reduceAdd, q7, w1, v0, Int.toNat_one]
      refine ⟨by decide, ?_⟩
      refine awpL_for (i := 33) (L := 32) 1 (fun j s => LpA b B 0 j [] s) ?_ ⟨_, Sub.trans (Sub.ghostR 2 0 1 1 (by decide) (by decide) rfl rfl) (Sub.gc [0, 1, 2, 3] [33, 32, 3, 4, 5, 6, 7, 8] rfl rfl), ?_⟩ ?_ ?_
      · rintro k s rfl; exact ⟨rfl, rfl⟩
      · refine St.gc_mk ?_ rfl rfl rfl
        simp only [List.map_cons, List.map_nil, lk, q3, q4, q5, q6, q7, Nat.reduceEqDiff, reduceIte]
        rfl
      · rintro j s hj rfl
        have hwj : IntKind.i64.wrap ((j : Int) + 1) = ((j + 1 : Nat) : Int) := by rw [wrap_id (by omega) (by omega)]; omega
        have h74 := ones_ok j (Nat.lt_of_lt_of_le hj (by decide))
        have hsz := size_le5' 0 (by decide) j hj
        have huj : IntKind.u64.wrap (j : Int) = (j : Int) := u64_nat (by omega)
        simp only [go_sem, Nat.reduceEqDiff, List.nil_append, List.singleton_append, rowsB, List.map_nil, List.map_cons, List.range_zero, huj]
        refine ACallL.quiet1 h74 rfl rfl rfl ?_
        clear hb
        have ss := fun k => sizesB_succ j k
        have sl := fun k => sizesB_len j k
        generalize hn : size j = n at *
        have : n = 0 := by omega
        subst this
        · simp only [go_sem, Nat.reduceEqDiff, Nat.reduceAdd, Nat.reduceLT, Int.reduceLT, Int.reduceLE, Bool.not_false, undef, undef, List.length_map, hwj]
          have sl := sl 0
          have s0 := ss 0
          rw [if_pos rfl] at s0
          refine ⟨⟨Nat.le_trans (show _ ≤ 33 by omega) (by decide), by omega⟩, _, Sub.gc [0, 1, 2, 3] [33, 32, 3, 4, 5, 6, 7, 8] rfl rfl, ?_⟩
          rw [show eN (sizesB j 0) ++ [E.t (vi (j : Int))] = eN (sizesB j 0 ++ [j]) by simp]
          refine St.gc_mk rfl ?_ rfl rfl
          simp only [σgc, rowsB, List.map_cons, List.map_nil, List.range_zero, List.range_succ, List.nil_append, List.getD_cons_zero, List.getD_cons_succ, AO.gc, gc_row, s0, List.length_append, List.length_singleton]
          rfl
      · rintro s rfl; exact rfl
    · simp only [go_sem, Nat.reduceEqDiff, Nat.reduceAdd, Int.reduceLT, Int.reduceLE, Int.reduceAdd, q7, w2, v1, Int.toNat_one, t2]
      refine ⟨by decide, ?_⟩
      refine awpL_for (i := 33) (L := 32) 2 (fun j s => LpA b B 1 j [] s) ?_ ⟨_, Sub.trans (Sub.trans (Sub.ghostR 2 0 1 1 (by decide) (by decide) rfl rfl) (Sub.ghostR 2 1 1 1 (by decide) (by decide) rfl rfl)) (Sub.gc [0, 1, 2, 3, 4] [33, 32, 3, 4, 5, 6, 7, 8] rfl rfl), ?_⟩ ?_ ?_
      · rintro k s rfl; exact ⟨rfl, rfl⟩
      · refine St.gc_mk ?_ rfl rfl rfl
        simp only [List.map_cons, List.map_nil, lk, q3, q4, q5, q6, q7, Nat.reduceEqDiff, reduceIte]
        rfl
      · rintro j s hj rfl
        have hwj : IntKind.i64.wrap ((j : Int) + 1) = ((j + 1 : Nat) : Int) := by rw [wrap_id (by omega) (by omega)]; omega
        have h74 := ones_ok j (Nat.lt_of_lt_of_le hj (by decide))
        have hsz := size_le5' 1 (by decide) j hj
        have huj : IntKind.u64.wrap (j : Int) = (j : Int) := u64_nat (by omega)
        simp only [go_sem, Nat.reduceEqDiff, Nat.reduceAdd, List.nil_append, List.singleton_append, rowsB, List.map_nil, List.map_cons, List.range_zero, huj]
        refine ACallL.quiet1 h74 rfl rfl rfl ?_
        clear hb
        have ss := fun k => sizesB_succ j k
        have sl := fun k => sizesB_len j k
        generalize hn : size j = n at *
        rcases (by omega : n = 0 ∨ n = 1) with rfl | rfl
        · simp only [go_sem, Nat.reduceEqDiff, Nat.reduceAdd, Nat.reduceLT, Int.reduceLT, Int.reduceLE, Bool.not_false, undef, undef, List.length_map, hwj]
          have sl := sl 0
          have s0 := ss 0
          rw [if_pos rfl] at s0
          have s1 := ss 1
          rw [if_neg (by decide)] at s1
          refine ⟨⟨Nat.le_trans (show _ ≤ 33 by omega) (by decide), by omega⟩, _, Sub.gc [0, 1, 2, 3, 4] [33, 32, 3, 4, 5, 6, 7, 8] rfl rfl, ?_⟩
          rw [show eN (sizesB j 0) ++ [E.t (vi (j : Int))] = eN (sizesB j 0 ++ [j]) by simp]
          refine St.gc_mk rfl ?_ rfl rfl
          simp only [σgc, rowsB, List.map_cons, List.map_nil, List.range_zero, List.range_succ, List.nil_append, List.cons_append, List.getD_cons_zero, List.getD_cons_succ, AO.gc, gc_row, s0, s1, List.length_append, List.length_singleton]
          rfl
        · simp only [go_sem, Nat.reduceEqDiff, Nat.reduceAdd, Nat.reduceLT, Int.reduceToNat, Int.reduceLT, Int.reduceLE, Bool.not_false, undef, undef, List.length_map, hwj]
          have sl := sl 1
          have s0 := ss 0
          rw [if_neg (by decide)] at s0
          have s1 := ss 1
          rw [if_pos rfl] at s1
          refine ⟨⟨Nat.le_trans (show _ ≤ 33 by omega) (by decide), by omega⟩, _, Sub.gc [0, 1, 2, 3, 4] [33, 32, 3, 4, 5, 6, 7, 8] rfl rfl, ?_⟩
          rw [show eN (sizesB j 1) ++ [E.t (vi (j : Int))] = eN (sizesB j 1 ++ [j]) by simp]
          refine St.gc_mk rfl ?_ rfl rfl
          simp only [σgc, rowsB, List.map_cons, List.map_nil, List.range_zero, List.range_succ, List.nil_append, List.cons_append, List.getD_cons_zero, List.getD_cons_succ, AO.gc, gc_row, s0, s1, List.length_append, List.length_singleton]
          rfl
      · rintro s rfl; exact rfl
    · simp only [go_sem, Nat.reduceEqDiff, Nat.reduceAdd, Int.reduceLT, Int.reduceLE, Int.reduceAdd, q7, w3, v2, t2, t3]
      refine ⟨by decide, ?_⟩
      refine awpL_for (i := 33) (L := 32) 4 (fun j s => LpA b B 2 j [] s) ?_ ⟨_, Sub.trans (Sub.trans (Sub.trans (Sub.ghostR 2 0 1 1 (by decide) (by decide) rfl rfl) (Sub.ghostR 2 1 1 1 (by decide) (by decide) rfl rfl)) (Sub.ghostR 2 2 1 1 (by decide) (by decide) rfl rfl)) (Sub.gc [0, 1, 2, 3, 4, 5] [33, 32, 3, 4, 5, 6, 7, 8] rfl rfl), ?_⟩ ?_ ?_
      · rintro k s rfl; exact ⟨rfl, rfl⟩
      · refine St.gc_mk ?_ rfl rfl rfl
        simp only [List.map_cons, List.map_nil, lk, q3, q4, q5, q6, q7, Nat.reduceEqDiff, reduceIte]
        rfl
      · rintro j s hj rfl
        have hwj : IntKind.i64.wrap ((j : Int) + 1) = ((j + 1 : Nat) : Int) := by rw [wrap_id (by omega) (by omega)]; omega
        have h74 := ones_ok j (Nat.lt_of_lt_of_le hj (by decide))
        have hsz := size_le5' 2 (by decide) j hj
        have huj : IntKind.u64.wrap (j : Int) = (j : Int) := u64_nat (by omega)
        simp only [go_sem, Nat.reduceEqDiff, Nat.reduceAdd, List.nil_append, List.singleton_append, rowsB, List.map_nil, List.map_cons, List.range_zero, huj]
        refine ACallL.quiet1 h74 rfl rfl rfl ?_
        clear hb
        have ss := fun k => sizesB_succ j k
        have sl := fun k => sizesB_len j k
        generalize hn : size j = n at *
        rcases (by omega : n = 0 ∨ n = 1 ∨ n = 2) with rfl | rfl | rfl
        · simp only [go_sem, Nat.reduceEqDiff, Nat.reduceAdd, Nat.reduceLT, Int.reduceLT, Int.reduceLE, Bool.not_false, undef, undef, List.length_map, hwj]
          have sl := sl 0
          have s0 := ss 0
          rw [if_pos rfl] at s0
          have s1 := ss 1
          rw [if_neg (by decide)] at s1
          have s2 := ss 2
          rw [if_neg (by decide)] at s2
          refine ⟨⟨Nat.le_trans (show _ ≤ 33 by omega) (by decide), by omega⟩, _, Sub.gc [0, 1, 2, 3, 4, 5] [33, 32, 3, 4, 5, 6, 7, 8] rfl rfl, ?_⟩
          rw [show eN (sizesB j 0) ++ [E.t (vi (j : Int))] = eN (sizesB j 0 ++ [j]) by simp]
          refine St.gc_mk rfl ?_ rfl rfl
          simp only [σgc, rowsB, List.map_cons, List.map_nil, List.range_zero, List.range_succ, List.nil_append, List.cons_append, List.getD_cons_zero, List.getD_cons_succ, AO.gc, gc_row, s0, s1, s2, List.length_append, List.length_singleton]
          rfl
        · simp only [go_sem, Nat.reduceEqDiff, Nat.reduceAdd, Nat.reduceLT, Int.reduceToNat, Int.reduceLT, Int.reduceLE, Bool.not_false, undef, undef, List.length_map, hwj]
          have sl := sl 1
          have s0 := ss 0
          rw [if_neg (by decide)] at s0
          have s1 := ss 1
          rw [if_pos rfl] at s1
          have s2 := ss 2
          rw [if_neg (by decide)] at s2
          refine ⟨⟨Nat.le_trans (show _ ≤ 33 by omega) (by decide), by omega⟩, _, Sub.gc [0, 1, 2, 3, 4, 5] [33, 32, 3, 4, 5, 6, 7, 8] rfl rfl, ?_⟩
          rw [show eN (sizesB j 1) ++ [E.t (vi (j : Int))] = eN (sizesB j 1 ++ [j]) by simp]
          refine St.gc_mk rfl ?_ rfl rfl
          simp only [σgc, rowsB, List.map_cons, List.map_nil, List.range_zero, List.range_succ, List.nil_append, List.cons_append, List.getD_cons_zero, List.getD_cons_succ, AO.gc, gc_row, s0, s1, s2, List.length_append, List.length_singleton]
          rfl
        · simp only [go_sem, Nat.reduceEqDiff, Nat.reduceAdd, Nat.reduceLT, Int.reduceToNat, Int.reduceLT, Int.reduceLE, Bool.not_false, undef, undef, List.length_map, hwj]
          have sl := sl 2
          have s0 := ss 0
          rw [if_neg (by decide)] at s0
          have s1 := ss 1
          rw [if_neg (by decide)] at s1
          have s2 := ss 2
          rw [if_pos rfl] at s2
          refine ⟨⟨Nat.le_trans (show _ ≤ 33 by omega) (by decide), by omega⟩, _, Sub.gc [0, 1, 2, 3, 4, 5] [33, 32, 3, 4, 5, 6, 7, 8] rfl rfl, ?_⟩
          rw [show eN (sizesB j 2) ++ [E.t (vi (j : Int))] = eN (sizesB j 2 ++ [j]) by simp]
          refine St.gc_mk rfl ?_ rfl rfl
          simp only [σgc, rowsB, List.map_cons, List.map_nil, List.range_zero, List.range_succ, List.nil_append, List.cons_append, List.getD_cons_zero, List.getD_cons_succ, AO.gc, gc_row, s0, s1, s2, List.length_append, List.length_singleton]
          rfl
      · rintro s rfl; exact rfl
    · simp only [go_sem, Nat.reduceEqDiff, Nat.reduceAdd, Int.reduceLT, Int.reduceLE, Int.reduceAdd, q7, w4, v3, t3, t4]
      refine ⟨by decide, ?_⟩
      refine awpL_for (i := 33) (L := 32) 8 (fun j s => LpA b B 3 j [] s) ?_ ⟨_, Sub.trans (Sub.trans (Sub.trans (Sub.trans (Sub.ghostR 2 0 1 1 (by decide) (by decide) rfl rfl) (Sub.ghostR 2 1 1 1 (by decide) (by decide) rfl rfl)) (Sub.ghostR 2 2 1 1 (by decide) (by decide) rfl rfl)) (Sub.ghostR 2 3 1 1 (by decide) (by decide) rfl rfl)) (Sub.gc [0, 1, 2, 3, 4, 5, 6] [33, 32, 3, 4, 5, 6, 7, 8] rfl rfl), ?_⟩ ?_ ?_
      · rintro k s rfl; exact ⟨rfl, rfl⟩
      · refine St.gc_mk ?_ rfl rfl rfl
        simp only [List.map_cons, List.map_nil, lk, q3, q4, q5, q6, q7, Nat.reduceEqDiff, reduceIte]
        rfl
      · rintro j s hj rfl
        have hwj : IntKind.i64.wrap ((j : Int) + 1) = ((j + 1 : Nat) : Int) := by rw [wrap_id (by omega) (by omega)]; omega
        have h74 := ones_ok j (Nat.lt_of_lt_of_le hj (by decide))
        have hsz := size_le5' 3 (by decide) j hj
        have huj : IntKind.u64.wrap (j : Int) = (j : Int) := u64_nat (by omega)
        simp only [go_sem, Nat.reduceEqDiff, Nat.reduceAdd, List.nil_append, List.singleton_append, rowsB, List.map_nil, List.map_cons, List.range_zero, huj]
        refine ACallL.quiet1 h74 rfl rfl rfl ?_
        clear hb
        have ss := fun k => sizesB_succ j k
        have sl := fun k => sizesB_len j k
        generalize hn : size j = n at *
        rcases (by omega : n = 0 ∨ n = 1 ∨ n = 2 ∨ n = 3) with rfl | rfl | rfl | rfl
        · simp only [go_sem, Nat.reduceEqDiff, Nat.reduceAdd, Nat.reduceLT, Int.reduceLT, Int.reduceLE, Bool.not_false, undef, undef, List.length_map, hwj]
          have sl := sl 0
          have s0 := ss 0
          rw [if_pos rfl] at s0
          have s1 := ss 1
          rw [if_neg (by decide)] at s1
          have s2 := ss 2
          rw [if_neg (by decide)] at s2
          have s3 := ss 3
          rw [if_neg (by decide)] at s3
          refine ⟨⟨Nat.le_trans (show _ ≤ 33 by omega) (by decide), by omega⟩, _, Sub.gc [0, 1, 2, 3, 4, 5, 6] [33, 32, 3, 4, 5, 6, 7, 8] rfl rfl, ?_⟩
          rw [show eN (sizesB j 0) ++ [E.t (vi (j : Int))] = eN (sizesB j 0 ++ [j]) by simp]
          refine St.gc_mk rfl ?_ rfl rfl
          simp only [σgc, rowsB, List.map_cons, List.map_nil, List.range_zero, List.range_succ, List.nil_append, List.cons_append, List.getD_cons_zero, List.getD_cons_succ, AO.gc, gc_row, s0, s1, s2, s3, List.length_append, List.length_singleton]
          rfl
        · simp only [go_sem, Nat.reduceEqDiff, Nat.reduceAdd, Nat.reduceLT, Int.reduceToNat, Int.reduceLT, Int.reduceLE, Bool.not_false, undef, undef, List.length_map, hwj]
          have sl := sl 1
          have s0 := ss 0
          rw [if_neg (by decide)] at s0
          have s1 := ss 1
          rw [if_pos rfl] at s1
          have s2 := ss 2
          rw [if_neg (by decide)] at s2
          have s3 := ss 3
          rw [if_neg (by decide)] at s3
          refine ⟨⟨Nat.le_trans (show _ ≤ 33 by omega) (by decide), by omega⟩, _, Sub.gc [0, 1, 2, 3, 4, 5, 6] [33, 32, 3, 4, 5, 6, 7, 8] rfl rfl, ?_⟩
          rw [show eN (sizesB j 1) ++ [E.t (vi (j : Int))] = eN (sizesB j 1 ++ [j]) by simp]
          refine St.gc_mk rfl ?_ rfl rfl
          simp only [σgc, rowsB, List.map_cons, List.map_nil, List.range_zero, List.range_succ, List.nil_append, List.cons_append, List.getD_cons_zero, List.getD_cons_succ, AO.gc, gc_row, s0, s1, s2, s3, List.length_append, List.length_singleton]
          rfl
        · simp only [go_sem, Nat.reduceEqDiff, Nat.reduceAdd, Nat.reduceLT, Int.reduceToNat, Int.reduceLT, Int.reduceLE, Bool.not_false, undef, undef, List.length_map, hwj]
          have sl := sl 2
          have s0 := ss 0
          rw [if_neg (by decide)] at s0
          have s1 := ss 1
          rw [if_neg (by decide)] at s1
          have s2 := ss 2
          rw [if_pos rfl] at s2
          have s3 := ss 3
          rw [if_neg (by decide)] at s3
          refine ⟨⟨Nat.le_trans (show _ ≤ 33 by omega) (by decide), by omega⟩, _, Sub.gc [0, 1, 2, 3, 4, 5, 6] [33, 32, 3, 4, 5, 6, 7, 8] rfl rfl, ?_⟩
          rw [show eN (sizesB j 2) ++ [E.t (vi (j : Int))] = eN (sizesB j 2 ++ [j]) by simp]
          refine St.gc_mk rfl ?_ rfl rfl
          simp only [σgc, rowsB, List.map_cons, List.map_nil, List.range_zero, List.range_succ, List.nil_append, List.cons_append, List.getD_cons_zero, List.getD_cons_succ, AO.gc, gc_row, s0, s1, s2, s3, List.length_append, List.length_singleton]
          rfl
        · simp only [go_sem, Nat.reduceEqDiff, Nat.reduceAdd, Nat.reduceLT, Int.reduceToNat, Int.reduceLT, Int.reduceLE, Bool.not_false, undef, undef, List.length_map, hwj]
          have sl := sl 3
          have s0 := ss 0
          rw [if_neg (by decide)] at s0
          have s1 := ss 1
          rw [if_neg (by decide)] at s1
          have s2 := ss 2
          rw [if_neg (by decide)] at s2
          have s3 := ss 3
          rw [if_pos rfl] at s3
          refine ⟨⟨Nat.le_trans (show _ ≤ 33 by omega) (by decide), by omega⟩, _, Sub.gc [0, 1, 2, 3, 4, 5, 6] [33, 32, 3, 4, 5, 6, 7, 8] rfl rfl, ?_⟩
          rw [show eN (sizesB j 3) ++ [E.t (vi (j : Int))] = eN (sizesB j 3 ++ [j]) by simp]
          refine St.gc_mk rfl ?_ rfl rfl
          simp only [σgc, rowsB, List.map_cons, List.map_nil, List.range_zero, List.range_succ, List.nil_append, List.cons_append, List.getD_cons_zero, List.getD_cons_succ, AO.gc, gc_row, s0, s1, s2, s3, List.length_append, List.length_singleton]
          rfl
      · rintro s rfl; exact rfl
    · simp only [go_sem, Nat.reduceEqDiff, Nat.reduceAdd, Int.reduceLT, Int.reduceLE, Int.reduceAdd, q7, w5, v4, t4, t5]
      refine ⟨by decide, ?_⟩
      refine awpL_for (i := 33) (L := 32) 16 (fun j s => LpA b B 4 j [] s) ?_ ⟨_, Sub.trans (Sub.trans (Sub.trans (Sub.trans (Sub.trans (Sub.ghostR 2 0 1 1 (by decide) (by decide) rfl rfl) (Sub.ghostR 2 1 1 1 (by decide) (by decide) rfl rfl)) (Sub.ghostR 2 2 1 1 (by decide) (by decide) rfl rfl)) (Sub.ghostR 2 3 1 1 (by decide) (by decide) rfl rfl)) (Sub.ghostR 2 4 1 1 (by decide) (by decide) rfl rfl)) (Sub.gc [0, 1, 2, 3, 4, 5, 6, 7] [33, 32, 3, 4, 5, 6, 7, 8] rfl rfl), ?_⟩ ?_ ?_
      · rintro k s rfl; exact ⟨rfl, rfl⟩
      · refine St.gc_mk ?_ rfl rfl rfl
        simp only [List.map_cons, List.map_nil, lk, q3, q4, q5, q6, q7, Nat.reduceEqDiff, reduceIte]
        rfl
      · rintro j s hj rfl
        have hwj : IntKind.i64.wrap ((j : Int) + 1) = ((j + 1 : Nat) : Int) := by rw [wrap_id (by omega) (by omega)]; omega
        have h74 := ones_ok j (Nat.lt_of_lt_of_le hj (by decide))
        have hsz := size_le5' 4 (by decide) j hj
        have huj : IntKind.u64.wrap (j : Int) = (j : Int) := u64_nat (by omega)
        simp only [go_sem, Nat.reduceEqDiff, Nat.reduceAdd, List.nil_append, List.singleton_append, rowsB, List.map_nil, List.map_cons, List.range_zero, huj]
        refine ACallL.quiet1 h74 rfl rfl rfl ?_
        clear hb
        have ss := fun k => sizesB_succ j k
        have sl := fun k => sizesB_len j k
        generalize hn : size j = n at *
        rcases (by omega : n = 0 ∨ n = 1 ∨ n = 2 ∨ n = 3 ∨ n = 4) with rfl | rfl | rfl | rfl | rfl
        · simp only [go_sem, Nat.reduceEqDiff, Nat.reduceAdd, Nat.reduceLT, Int.reduceLT, Int.reduceLE, Bool.not_false, undef, undef, List.length_map, hwj]
          have sl := sl 0
          have s0 := ss 0
          rw [if_pos rfl] at s0
          have s1 := ss 1
          rw [if_neg (by decide)] at s1
          have s2 := ss 2
          rw [if_neg (by decide)] at s2
          have s3 := ss 3
          rw [if_neg (by decide)] at s3
          have s4 := ss 4
          rw [if_neg (by decide)] at s4
          refine ⟨⟨Nat.le_trans (show _ ≤ 33 by omega) (by decide), by omega⟩, _, Sub.gc [0, 1, 2, 3, 4, 5, 6, 7] [33, 32, 3, 4, 5, 6, 7, 8] rfl rfl, ?_⟩
          rw [show eN (sizesB j 0) ++ [E.t (vi (j : Int))] = eN (sizesB j 0 ++ [j]) by simp]
          refine St.gc_mk rfl ?_ rfl rfl
          simp only [σgc, rowsB, List.map_cons, List.map_nil, List.range_zero, List.range_succ, List.nil_append, List.cons_append, List.getD_cons_zero, List.getD_cons_succ, AO.gc, gc_row, s0, s1, s2, s3, s4, List.length_append, List.length_singleton]
          rfl
        · simp only [go_sem, Nat.reduceEqDiff, Nat.reduceAdd, Nat.reduceLT, Int.reduceToNat, Int.reduceLT, Int.reduceLE, Bool.not_false, undef, undef, List.length_map, hwj]
          have sl := sl 1
          have s0 := ss 0
          rw [if_neg (by decide)] at s0
          have s1 := ss 1
          rw [if_pos rfl] at s1
          have s2 := ss 2
          rw [if_neg (by decide)] at s2
          have s3 := ss 3
          rw [if_neg (by decide)] at s3
          have s4 := ss 4
          rw [if_neg (by decide)] at s4
          refine ⟨⟨Nat.le_trans (show _ ≤ 33 by omega) (by decide), by omega⟩, _, Sub.gc [0, 1, 2, 3, 4, 5, 6, 7] [33, 32, 3, 4, 5, 6, 7, 8] rfl rfl, ?_⟩
          rw [show eN (sizesB j 1) ++ [E.t (vi (j : Int))] = eN (sizesB j 1 ++ [j]) by simp]
          refine St.gc_mk rfl ?_ rfl rfl
          simp only [σgc, rowsB, List.map_cons, List.map_nil, List.range_zero, List.range_succ, List.nil_append, List.cons_append, List.getD_cons_zero, List.getD_cons_succ, AO.gc, gc_row, s0, s1, s2, s3, s4, List.length_append, List.length_singleton]
          rfl
        · simp only [go_sem, Nat.reduceEqDiff, Nat.reduceAdd, Nat.reduceLT, Int.reduceToNat, Int.reduceLT, Int.reduceLE, Bool.not_false, undef, undef, List.length_map, hwj]
          have sl := sl 2
          have s0 := ss 0
          rw [if_neg (by decide)] at s0
          have s1 := ss 1
          rw [if_neg (by decide)] at s1
          have s2 := ss 2
          rw [if_pos rfl] at s2
          have s3 := ss 3
          rw [if_neg (by decide)] at s3
          have s4 := ss 4
          rw [if_neg (by decide)] at s4
          refine ⟨⟨Nat.le_trans (show _ ≤ 33 by omega) (by decide), by omega⟩, _, Sub.gc [0, 1, 2, 3, 4, 5, 6, 7] [33, 32, 3, 4, 5, 6, 7, 8] rfl rfl, ?_⟩
          rw [show eN (sizesB j 2) ++ [E.t (vi (j : Int))] = eN (sizesB j 2 ++ [j]) by simp]
          refine St.gc_mk rfl ?_ rfl rfl
          simp only [σgc, rowsB, List.map_cons, List.map_nil, List.range_zero, List.range_succ, List.nil_append, List.cons_append, List.getD_cons_zero, List.getD_cons_succ, AO.gc, gc_row, s0, s1, s2, s3, s4, List.length_append, List.length_singleton]
          rfl
        · simp only [go_sem, Nat.reduceEqDiff, Nat.reduceAdd, Nat.reduceLT, Int.reduceToNat, Int.reduceLT, Int.reduceLE, Bool.not_false, undef, undef, List.length_map, hwj]
          have sl := sl 3
          have s0 := ss 0
          rw [if_neg (by decide)] at s0
          have s1 := ss 1
          rw [if_neg (by decide)] at s1
          have s2 := ss 2
          rw [if_neg (by decide)] at s2
          have s3 := ss 3
          rw [if_pos rfl] at s3
          have s4 := ss 4
          rw [if_neg (by decide)] at s4
          refine ⟨⟨Nat.le_trans (show _ ≤ 33 by omega) (by decide), by omega⟩, _, Sub.gc [0, 1, 2, 3, 4, 5, 6, 7] [33, 32, 3, 4, 5, 6, 7, 8] rfl rfl, ?_⟩
          rw [show eN (sizesB j 3) ++ [E.t (vi (j : Int))] = eN (sizesB j 3 ++ [j]) by simp]
          refine St.gc_mk rfl ?_ rfl rfl
          simp only [σgc, rowsB, List.map_cons, List.map_nil, List.range_zero, List.range_succ, List.nil_append, List.cons_append, List.getD_cons_zero, List.getD_cons_succ, AO.gc, gc_row, s0, s1, s2, s3, s4, List.length_append, List.length_singleton]
          rfl
        · simp only [go_sem, Nat.reduceEqDiff, Nat.reduceAdd, Nat.reduceLT, Int.reduceToNat, Int.reduceLT, Int.reduceLE, Bool.not_false, undef, undef, List.length_map, hwj]
          have sl := sl 4
          have s0 := ss 0
          rw [if_neg (by decide)] at s0
          have s1 := ss 1
          rw [if_neg (by decide)] at s1
          have s2 := ss 2
          rw [if_neg (by decide)] at s2
          have s3 := ss 3
          rw [if_neg (by decide)] at s3
          have s4 := ss 4
          rw [if_pos rfl] at s4
          refine ⟨⟨Nat.le_trans (show _ ≤ 33 by omega) (by decide), by omega⟩, _, Sub.gc [0, 1, 2, 3, 4, 5, 6, 7] [33, 32, 3, 4, 5, 6, 7, 8] rfl rfl, ?_⟩
          rw [show eN (sizesB j 4) ++ [E.t (vi (j : Int))] = eN (sizesB j 4 ++ [j]) by simp]
          refine St.gc_mk rfl ?_ rfl rfl
          simp only [σgc, rowsB, List.map_cons, List.map_nil, List.range_zero, List.range_succ, List.nil_append, List.cons_append, List.getD_cons_zero, List.getD_cons_succ, AO.gc, gc_row, s0, s1, s2, s3, s4, List.length_append, List.length_singleton]
          rfl
      · rintro s rfl; exact rfl
    · simp only [go_sem, Nat.reduceEqDiff, Nat.reduceAdd, Int.reduceLT, Int.reduceLE, Int.reduceAdd, q7, w6, v5, t5, t6]
      refine ⟨by decide, ?_⟩
      refine awpL_for (i := 33) (L := 32) 32 (fun j s => LpA b B 5 j [] s) ?_ ⟨_, Sub.trans (Sub.trans (Sub.trans (Sub.trans (Sub.trans (Sub.trans (Sub.ghostR 2 0 1 1 (by decide) (by decide) rfl rfl) (Sub.ghostR 2 1 1 1 (by decide) (by decide) rfl rfl)) (Sub.ghostR 2 2 1 1 (by decide) (by decide) rfl rfl)) (Sub.ghostR 2 3 1 1 (by decide) (by decide) rfl rfl)) (Sub.ghostR 2 4 1 1 (by decide) (by decide) rfl rfl)) (Sub.ghostR 2 5 1 1 (by decide) (by decide) rfl rfl)) (Sub.gc [0, 1, 2, 3, 4, 5, 6, 7, 8] [33, 32, 3, 4, 5, 6, 7, 8] rfl rfl), ?_⟩ ?_ ?_
      · rintro k s rfl; exact ⟨rfl, rfl⟩
      · refine St.gc_mk ?_ rfl rfl rfl
        simp only [List.map_cons, List.map_nil, lk, q3, q4, q5, q6, q7, Nat.reduceEqDiff, reduceIte]
        rfl
      · rintro j s hj rfl
        have hwj : IntKind.i64.wrap ((j : Int) + 1) = ((j + 1 : Nat) : Int) := by rw [wrap_id (by omega) (by omega)]; omega
        have h74 := ones_ok j (Nat.lt_of_lt_of_le hj (by decide))
        have hsz := size_le5' 5 (by decide) j hj
        have huj : IntKind.u64.wrap (j : Int) = (j : Int) := u64_nat (by omega)
        simp only [go_sem, Nat.reduceEqDiff, Nat.reduceAdd, List.nil_append, List.singleton_append, rowsB, List.map_nil, List.map_cons, List.range_zero, huj]
        refine ACallL.quiet1 h74 rfl rfl rfl ?_
        clear hb
        have ss := fun k => sizesB_succ j k
        have sl := fun k => sizesB_len j k
        generalize hn : size j = n at *
        rcases (by omega : n = 0 ∨ n = 1 ∨ n = 2 ∨ n = 3 ∨ n = 4 ∨ n = 5) with rfl | rfl | rfl | rfl | rfl | rfl
        · simp only [go_sem, Nat.reduceEqDiff, Nat.reduceAdd, Nat.reduceLT, Int.reduceLT, Int.reduceLE, Bool.not_false, undef, undef, List.length_map, hwj]
          have sl := sl 0
          have s0 := ss 0
          rw [if_pos rfl] at s0
          have s1 := ss 1
          rw [if_neg (by decide)] at s1
          have s2 := ss 2
          rw [if_neg (by decide)] at s2
          have s3 := ss 3
          rw [if_neg (by decide)] at s3
          have s4 := ss 4
          rw [if_neg (by decide)] at s4
          have s5 := ss 5
          rw [if_neg (by decide)] at s5
          refine ⟨⟨Nat.le_trans (show _ ≤ 33 by omega) (by decide), by omega⟩, _, Sub.gc [0, 1, 2, 3, 4, 5, 6, 7, 8] [33, 32, 3, 4, 5, 6, 7, 8] rfl rfl, ?_⟩
          rw [show eN (sizesB j 0) ++ [E.t (vi (j : Int))] = eN (sizesB j 0 ++ [j]) by simp]
          refine St.gc_mk rfl ?_ rfl rfl
          simp only [σgc, rowsB, List.map_cons, List.map_nil, List.range_zero, List.range_succ, List.nil_append, List.cons_append, List.getD_cons_zero, List.getD_cons_succ, AO.gc, gc_row, s0, s1, s2, s3, s4, s5, List.length_append, List.length_singleton]
          rfl
        · simp only [go_sem, Nat.reduceEqDiff, Nat.reduceAdd, Nat.reduceLT, Int.reduceToNat, Int.reduceLT, Int.reduceLE, Bool.not_false, undef, undef, List.length_map, hwj]
          have sl := sl 1
          have s0 := ss 0
          rw [if_neg (by decide)] at s0
          have s1 := ss 1
          rw [if_pos rfl] at s1
          have s2 := ss 2
          rw [if_neg (by decide)] at s2
          have s3 := ss 3
          rw [if_neg (by decide)] at s3
          have s4 := ss 4
          rw [if_neg (by decide)] at s4
          have s5 := ss 5
          rw [if_neg (by decide)] at s5
          refine ⟨⟨Nat.le_trans (show _ ≤ 33 by omega) (by decide), by omega⟩, _, Sub.gc [0, 1, 2, 3, 4, 5, 6, 7, 8] [33, 32, 3, 4, 5, 6, 7, 8] rfl rfl, ?_⟩
          rw [show eN (sizesB j 1) ++ [E.t (vi (j : Int))] = eN (sizesB j 1 ++ [j]) by simp]
          refine St.gc_mk rfl ?_ rfl rfl
          simp only [σgc, rowsB, List.map_cons, List.map_nil, List.range_zero, List.range_succ, List.nil_append, List.cons_append, List.getD_cons_zero, List.getD_cons_succ, AO.gc, gc_row, s0, s1, s2, s3, s4, s5, List.length_append, List.length_singleton]
          rfl
        · simp only [go_sem, Nat.reduceEqDiff, Nat.reduceAdd, Nat.reduceLT, Int.reduceToNat, Int.reduceLT, Int.reduceLE, Bool.not_false, undef, undef, List.length_map, hwj]
          have sl := sl 2
          have s0 := ss 0
          rw [if_neg (by decide)] at s0
          have s1 := ss 1
          rw [if_neg (by decide)] at s1
          have s2 := ss 2
          rw [if_pos rfl] at s2
          have s3 := ss 3
          rw [if_neg (by decide)] at s3
          have s4 := ss 4
          rw [if_neg (by decide)] at s4
          have s5 := ss 5
          rw [if_neg (by decide)] at s5
          refine ⟨⟨Nat.le_trans (show _ ≤ 33 by omega) (by decide), by omega⟩, _, Sub.gc [0, 1, 2, 3, 4, 5, 6, 7, 8] [33, 32, 3, 4, 5, 6, 7, 8] rfl rfl, ?_⟩
          rw [show eN (sizesB j 2) ++ [E.t (vi (j : Int))] = eN (sizesB j 2 ++ [j]) by simp]
          refine St.gc_mk rfl ?_ rfl rfl
          simp only [σgc, rowsB, List.map_cons, List.map_nil, List.range_zero, List.range_succ, List.nil_append, List.cons_append, List.getD_cons_zero, List.getD_cons_succ, AO.gc, gc_row, s0, s1, s2, s3, s4, s5, List.length_append, List.length_singleton]
          rfl
        · simp only [go_sem, Nat.reduceEqDiff, Nat.reduceAdd, Nat.reduceLT, Int.reduceToNat, Int.reduceLT, Int.reduceLE, Bool.not_false, undef, undef, List.length_map, hwj]
          have sl := sl 3
          have s0 := ss 0
          rw [if_neg (by decide)] at s0
          have s1 := ss 1
          rw [if_neg (by decide)] at s1
          have s2 := ss 2
          rw [if_neg (by decide)] at s2
          have s3 := ss 3
          rw [if_pos rfl] at s3
          have s4 := ss 4
          rw [if_neg (by decide)] at s4
          have s5 := ss 5
          rw [if_neg (by decide)] at s5
          refine ⟨⟨Nat.le_trans (show _ ≤ 33 by omega) (by decide), by omega⟩, _, Sub.gc [0, 1, 2, 3, 4, 5, 6, 7, 8] [33, 32, 3, 4, 5, 6, 7, 8] rfl rfl, ?_⟩
          rw [show eN (sizesB j 3) ++ [E.t (vi (j : Int))] = eN (sizesB j 3 ++ [j]) by simp]
          refine St.gc_mk rfl ?_ rfl rfl
          simp only [σgc, rowsB, List.map_cons, List.map_nil, List.range_zero, List.range_succ, List.nil_append, List.cons_append, List.getD_cons_zero, List.getD_cons_succ, AO.gc, gc_row, s0, s1, s2, s3, s4, s5, List.length_append, List.length_singleton]
          rfl
        · simp only [go_sem, Nat.reduceEqDiff, Nat.reduceAdd, Nat.reduceLT, Int.reduceToNat, Int.reduceLT, Int.reduceLE, Bool.not_false, undef, undef, List.length_map, hwj]
          have sl := sl 4
          have s0 := ss 0
          rw [if_neg (by decide)] at s0
          have s1 := ss 1
          rw [if_neg (by decide)] at s1
          have s2 := ss 2
          rw [if_neg (by decide)] at s2
          have s3 := ss 3
          rw [if_neg (by decide)] at s3
          have s4 := ss 4
          rw [if_pos rfl] at s4
          have s5 := ss 5
          rw [if_neg (by decide)] at s5
          refine ⟨⟨Nat.le_trans (show _ ≤ 33 by omega) (by decide), by omega⟩, _, Sub.gc [0, 1, 2, 3, 4, 5, 6, 7, 8] [33, 32, 3, 4, 5, 6, 7, 8] rfl rfl, ?_⟩
          rw [show eN (sizesB j 4) ++ [E.t (vi (j : Int))] = eN (sizesB j 4 ++ [j]) by simp]
          refine St.gc_mk rfl ?_ rfl rfl
          simp only [σgc, rowsB, List.map_cons, List.map_nil, List.range_zero, List.range_succ, List.nil_append, List.cons_append, List.getD_cons_zero, List.getD_cons_succ, AO.gc, gc_row, s0, s1, s2, s3, s4, s5, List.length_append, List.length_singleton]
          rfl
        · simp only [go_sem, Nat.reduceEqDiff, Nat.reduceAdd, Nat.reduceLT, Int.reduceToNat, Int.reduceLT, Int.reduceLE, Bool.not_false, undef, undef, List.length_map, hwj]
          have sl := sl 5
          have s0 := ss 0
          rw [if_neg (by decide)] at s0
          have s1 := ss 1
          rw [if_neg (by decide)] at s1
          have s2 := ss 2
          rw [if_neg (by decide)] at s2
          have s3 := ss 3
          rw [if_neg (by decide)] at s3
          have s4 := ss 4
          rw [if_neg (by decide)] at s4
          have s5 := ss 5
          rw [if_pos rfl] at s5
          refine ⟨⟨Nat.le_trans (show _ ≤ 33 by omega) (by decide), by omega⟩, _, Sub.gc [0, 1, 2, 3, 4, 5, 6, 7, 8] [33, 32, 3, 4, 5, 6, 7, 8] rfl rfl, ?_⟩
          rw [show eN (sizesB j 5) ++ [E.t (vi (j : Int))] = eN (sizesB j 5 ++ [j]) by simp]
          refine St.gc_mk rfl ?_ rfl rfl
          simp only [σgc, rowsB, List.map_cons, List.map_nil, List.range_zero, List.range_succ, List.nil_append, List.cons_append, List.getD_cons_zero, List.getD_cons_succ, AO.gc, gc_row, s0, s1, s2, s3, s4, s5, List.length_append, List.length_singleton]
          rfl
      · rintro s rfl; exact rfl
    -- end of cases
  clear w1 w2 w3 w4 w5 w6 v0 v1 v2 v3 v4 v5 q3 q4 q5 q6 q7
  intro st hst
  unfold LpA at hst
  subst hst
  have hcase : many = 0 ∨ many = 1 ∨ many = 2 ∨ many = 3 ∨ many = 4 ∨ many = 5 := by omega
  have wsh : IntKind.i64.wrap (1 * 2 ^ min many 64) = ((2 ^ many : Nat) : Int) := by rcases hcase with rfl | rfl | rfl | rfl | rfl | rfl <;> decide
  have h32 : 2 ^ many ≤ 32 := by rcases hcase with rfl | rfl | rfl | rfl | rfl | rfl <;> decide
  have hmn : ((many : Int) < 0) = False := by simp
  have hr0 : (rowsB many (2 ^ many) ++ [AO.row 1 []])[0]?.bind AO.len? = some (many + 1) := by simp [rowsB, AO.len?]
  have hcap : (((2 ^ many : Nat) : Int) ≤ 2 ^ 40 ∧ ((2 ^ many : Nat) : Int) * 8 ≤ 281474976710656) := by constructor <;> omega
  simp only [go_sem, Nat.reduceEqDiff, Int.reduceLE, List.cons_append, List.nil_append, wsh, List.length_cons, rowsB_len, hmn]
  refine ⟨hcap, ?_⟩
  simp only [go_sem, hr0]
  have hw1 : ∀ j : Nat, j < many + 1 → IntKind.i64.wrap ((j : Int) + 1) = ((j + 1 : Nat) : Int) := fun j hj => by rw [wrap_id (by omega) (by omega)]; omega
  refine awpL_for (i := 55) (L := 54) (many + 1) (fun j s => s = { env := [(55, .t (vi j)), (54, .t (vi ((many + 1 : Nat)))), (53, .t (.slice 1 (szT many))), (11, .loc 2 (catB many j).length), (3, .t (boxB B)), (4, .t (vi 0)), (5, .ptr 0 0), (6, .vp [waE b 1] 0)], σ := [.cells [.t (vi 0)], .map shQ [] [] 0, .row 1 (eN (catB many j))], df := [.call 48 [.ptr 0 0]], k := 0 }) ?_ ⟨_, Sub.gc [0, 1, many + 4] [55, 54, 53, 11, 3, 4, 5, 6] ?_ rfl, ?_⟩ ?_ ?_
  · rintro k s rfl; exact ⟨rfl, rfl⟩
  · simp [gcOK, rowsB]
  · refine St.gc_mk ?_ ?_ rfl rfl
    · simp only [List.map_cons, List.map_nil, lk, Nat.reduceEqDiff, reduceIte]
      rw [gc_rows many, gc_last many]
      rfl
    · simp only [σgc, List.map_cons, List.map_nil, last_row]
      rfl
  · rintro j s hj rfl
    have hat := szT_at hj
    have hsl := sizesB_len (2 ^ many) j
    have hcs := catB_succ many j
    have hcl : (catB many (j + 1)).length ≤ 32 := Nat.le_trans (catB_len many j (by omega)) (setsB_len many hmany)
    generalize hL : sizesB (2 ^ many) j = L at *
    have hdr : ∀ x : E, List.drop L.length (List.replicate L.length x) = [] := fun x => by simp
    simp only [go_sem, Nat.reduceEqDiff, Nat.reduceAdd, hat, List.length_map, List.length_replicate, hdr, List.append_nil, hw1 j hj]
    refine ⟨⟨Int.le_refl _, by omega, by omega⟩, ?_⟩
    rw [hcs, List.length_append] at hcl
    refine ⟨⟨Nat.le_trans hcl (by decide), by omega⟩, _, Sub.gc [0, 1, 2] [55, 54, 53, 11, 3, 4, 5, 6] rfl rfl, ?_⟩
    rw [hcs]
    rw [show eN (catB many j) ++ List.map E.t (L.map fun z : Nat => vi z) = eN (catB many j ++ L) by simp]
    refine St.gc_mk ?_ ?_ rfl rfl
    · rw [List.length_append]; rfl
    · simp only [σgc, List.map_cons, List.map_nil, List.getD_cons_zero, List.getD_cons_succ, AO.gc, gc_row]
      rfl
  rintro s rfl
  refine ?_
  simp only [go_sem]
  refine awpL_gcpE [0, 1] [3, 4, 5, 6, 11] { env := [(3, .t (boxB B)), (4, .t (vi 0)), (5, .ptr 0 0), (6, .vp [waE b 1] 0), (11, .t (.slice 1 ((setsB many).map fun z : Nat => vi z)))], σ := [.cells [.t (vi 0)], .map shQ [] [] 0], df := [.call 48 [.ptr 0 0]], k := 0 } (St.gc_mk (by
    simp only [List.map_cons, List.map_nil, lk, Nat.reduceEqDiff, reduceIte]
    rw [gc_loc (n := 10) (es := 1) (xs := (setsB many).map fun z : Nat => vi z) rfl rfl (by simp [catB, setsB])]
    rfl) rfl rfl rfl) rfl rfl ?_
  have hfi := first_ok b 75 (fun n => canQ b (outQ b B n)) (setsB many) (Nat.lt_of_le_of_lt (setsB_len many hmany) (by decide)) (boxB B)
    (fun n hn ks xs clk M => tryOut_ok b hb B hBl n (by have := setsB_lt hn; omega) M) (MapOK.nil b) (clk := 0)
  generalize (setsB many).find? (fun s => canQ b (outQ b B s)) = r at *
  simp only [go_sem, Nat.reduceEqDiff]
  refine lend1 (m := 1) hfi rfl rfl rfl ?_
  rintro o a ⟨rfl, ks2, xs2, clk2, M2, rfl⟩
  cases r with
  | none =>
    simp only [firstO, go_sem, Nat.reduceEqDiff, bne_self_eq_false, Out.ren, E.ren, E.rens, AO.ren]
    refine ACallL.quiet1 (ask_ok false 4) rfl rfl rfl ?_
    simp only [askO, go_sem, Nat.reduceEqDiff]
    refine finDL_pan rfl rfl ((answer_pan rfl).mono fun σ' h => ?_)
    subst h
    exact ⟨_, rfl, [], rfl, rfl, res_mk rfl⟩
  | some n =>
    simp only [firstO, go_sem, Nat.reduceEqDiff, Out.ren, E.ren, E.rens, AO.ren]
    refine ACallL.quiet1 (ask_ok ((n : Int) != 0) 4) rfl rfl (by simp only [askO]; split <;> rfl) ?_
    by_cases h0 : n = 0
    · subst h0
      simp only [askO, go_sem, Nat.reduceEqDiff, bne_self_eq_false]
      refine finDL_pan rfl rfl ((answer_pan rfl).mono fun σ' h => ?_)
      subst h
      exact ⟨_, rfl, [], rfl, rfl, res_mk rfl⟩
    · rw [show ((n : Int) != 0) = true by simp; omega]
      simp only [askO, go_sem, Nat.reduceEqDiff, undef, undef, if_false]
      refine finDL_ret rfl rfl (answer_none.mono fun σ' h => ?_)
      subst h
      refine ⟨.tup [.t (vi n), .t (vi 0)], rfl, [], rfl, rfl, res_mk ?_⟩
      rw [Option.getD_some, if_neg h0]; rfl
end Go.Proofs.YtafcdpmcmmfbhaaDoor
