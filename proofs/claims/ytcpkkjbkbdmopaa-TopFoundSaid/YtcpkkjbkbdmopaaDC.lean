/- Proved here: laws that the statements need (RaP, RaC1, RaA, RaB, RaD, RaE, RaF, RaG, RaH). No conditions but those that each law states. -/
import Derived.Test.YtcpkkjbkbdmopaaDB
import Derived.Test.YtcpkkjbkbdmopaaFL
import Derived.Test.YtcpkkjbkbdmopaaFP
import Derived.Test.YtcpkkjbkbdmopaaProg

set_option linter.unusedSimpArgs false
set_option linter.unusedVariables false

/- What rails are, in plain Lean: by how much hours dry, when a line is dry; plain laws of it. -/
namespace Go.Proofs.Ytcpkkjbkbdmopaa
open Go Go.Ab

structure Ln where
  many : Int
  from_ : Int
  lo : Int
  hi : Int
  deriving DecidableEq

structure Ra where
  tw : Tw
  stock : Int
  hours : Int
  sun : Int
  rain : Int
  perhaps : Int
  lines : List Ln
  price : Int

def tLn (l : Ln) : T := .agg [vi l.many, vi l.from_, vi l.lo, vi l.hi]
/-- The cells of a rail, less those of its towels. -/
def ra7 (r : Ra) : List T := [vi r.stock, vi r.hours, vi r.sun, vi r.rain, vi r.perhaps, .slice 4 (r.lines.map tLn), vi r.price]
def tRa (r : Ra) : T := .agg (tw3 r.tw ++ ra7 r)

/-! ### What is valid -/
def okLn (H : Int) (l : Ln) : Bool := wI l.many 1 6 && wI l.from_ 0 (H - 1) && decide (1 ≤ l.lo ∧ l.lo ≤ l.hi ∧ l.hi ≤ 8)
def isSetI (H s : Int) : Bool := wI s 0 ((2 ^ H.toNat : Nat) - 1)
def ok1 (r : Ra) : Bool := r.tw.ok && wI r.stock 0 60 && wI r.hours 1 12 && wI r.price 0 20 && decide (r.lines.length ≤ 4)
def ok2 (r : Ra) : Bool := isSetI r.hours r.sun && isSetI r.hours r.rain && isSetI r.hours r.perhaps
def Ra.ok (r : Ra) : Bool := ok1 r && ok2 r && r.lines.all (okLn r.hours)

structure Ra.OK (r : Ra) : Prop where
  tw : r.tw.OK
  stock : 0 ≤ r.stock ∧ r.stock ≤ 60
  hours : 1 ≤ r.hours ∧ r.hours ≤ 12
  price : 0 ≤ r.price ∧ r.price ≤ 20
  nl : r.lines.length ≤ 4
  sun : 0 ≤ r.sun ∧ r.sun < (2 ^ r.hours.toNat : Nat)
  rain : 0 ≤ r.rain ∧ r.rain < (2 ^ r.hours.toNat : Nat)
  perhaps : 0 ≤ r.perhaps ∧ r.perhaps < (2 ^ r.hours.toNat : Nat)
  ln : ∀ l ∈ r.lines, 1 ≤ l.many ∧ l.many ≤ 6 ∧ 0 ≤ l.from_ ∧ l.from_ < r.hours ∧ 1 ≤ l.lo ∧ l.lo ≤ l.hi ∧ l.hi ≤ 8

theorem Ra.ok_iff (r : Ra) : r.ok = true ↔ r.OK := by
  simp only [Ra.ok, ok1, ok2, isSetI, Bool.and_eq_true, decide_eq_true_eq, List.all_eq_true, wI, okLn, Tw.ok_iff]
  constructor
  · rintro ⟨⟨⟨⟨⟨⟨h1, h2⟩, h3⟩, h4⟩, h5⟩, ⟨h6, h7⟩, h8⟩, h9⟩
    exact ⟨h1, h2, h3, h4, h5, by omega, by omega, by omega, fun l hl => by have := h9 l hl; omega⟩
  · intro h
    have := h.sun; have := h.rain; have := h.perhaps
    exact ⟨⟨⟨⟨⟨⟨h.tw, h.stock⟩, h.hours⟩, h.price⟩, h.nl⟩, ⟨by omega, by omega⟩, by omega⟩, fun l hl => by have := h.ln l hl; omega⟩

/-! ### Hours that dry -/
/-- By how much an hour dries. -/
def dr (S R h : Nat) : Nat := if R.testBit h then 0 else if S.testBit h then 2 else 1
theorem dr_le (S R h : Nat) : dr S R h ≤ 2 := by unfold dr; split <;> (try split) <;> omega
/-- By how much a stretch dries. -/
def driedN (f : Nat → Nat) (a : Nat) : Nat → Nat
  | 0 => 0
  | b + 1 => if a ≤ b then driedN f a b + f b else 0
theorem driedN_succ {f : Nat → Nat} {a b : Nat} (h : a ≤ b) : driedN f a (b + 1) = driedN f a b + f b := by rw [driedN, if_pos h]
theorem driedN_none {f : Nat → Nat} {a : Nat} : ∀ {b : Nat}, b ≤ a → driedN f a b = 0
  | 0, _ => rfl
  | b + 1, h => by rw [driedN, if_neg (by omega)]
theorem driedN_le {f : Nat → Nat} (hf : ∀ h, f h ≤ 2) (a : Nat) : ∀ b, driedN f a b ≤ 2 * b
  | 0 => by simp [driedN]
  | b + 1 => by
    rw [driedN]
    split
    · have := driedN_le hf a b; have := hf b; omega
    · omega
theorem driedN_mono {f g : Nat → Nat} {a a' b : Nat} (hfg : ∀ h, h < b → f h ≤ g h) (ha : a' ≤ a) : driedN f a b ≤ driedN g a' b := by
  induction b with
  | zero => exact Nat.le_refl _
  | succ b ih =>
    have ih := ih fun h hh => hfg h (by omega)
    rw [driedN, driedN]
    split
    · rw [if_pos (by omega)]; have := hfg b (by omega); omega
    · split <;> omega
theorem driedN_up {f : Nat → Nat} {a b b' : Nat} (h : b ≤ b') : driedN f a b ≤ driedN f a b' := by
  induction h with
  | refl => exact Nat.le_refl _
  | @step m h ih =>
    rw [driedN]
    split
    · omega
    · rename_i hh
      have h' : b ≤ m := h
      rw [driedN_none (f := f) (a := a) (b := b) (by omega)]
      exact Nat.le_refl _

/-- The hours, and the end, from one on. -/
def hoursL (H at_ : Nat) : List Nat := List.range' at_ (H + 1 - at_)
theorem mem_hoursL {H at_ h : Nat} : h ∈ hoursL H at_ ↔ at_ ≤ h ∧ h ≤ H := by
  unfold hoursL; rw [List.mem_range'_1]; omega
/-- The first hour, or the end, at which it is dry. -/
def fromN (f : Nat → Nat) (H at_ wet : Nat) : Option Nat := (hoursL H at_).find? fun h => decide (wet ≤ driedN f at_ h)
/-- The same, above all hours if it is not. -/
def tm (f : Nat → Nat) (H at_ wet : Nat) : Nat := (fromN f H at_ wet).getD 99

theorem find_range' {p : Nat → Bool} : ∀ {n s : Nat} {x : Nat}, (List.range' s n).find? p = some x ↔ (s ≤ x ∧ x < s + n ∧ p x = true ∧ ∀ y, s ≤ y → y < x → p y = false)
  | 0, s, x => by simp; omega
  | n + 1, s, x => by
    rw [List.range'_succ, List.find?_cons]
    cases hp : p s with
    | true =>
      simp only [Option.some.injEq]
      constructor
      · rintro rfl; exact ⟨by omega, by omega, hp, fun y h1 h2 => by omega⟩
      · rintro ⟨h1, h2, h3, h4⟩
        by_cases e : s = x
        · exact e
        · have := h4 s (by omega) (by omega); rw [hp] at this; cases this
    | false =>
      simp only
      rw [find_range']
      constructor
      · rintro ⟨h1, h2, h3, h4⟩
        refine ⟨by omega, by omega, h3, fun y h5 h6 => ?_⟩
        by_cases e : y = s
        · rw [e]; exact hp
        · exact h4 y (by omega) h6
      · rintro ⟨h1, h2, h3, h4⟩
        have hne : x ≠ s := fun e => by rw [e] at h3; rw [hp] at h3; cases h3
        exact ⟨by omega, by omega, h3, fun y h5 h6 => h4 y (by omega) h6⟩
theorem find_range'_none {p : Nat → Bool} {n s : Nat} : (List.range' s n).find? p = none ↔ ∀ y, s ≤ y → y < s + n → p y = false := by
  rw [List.find?_eq_none]
  constructor
  · intro h y h1 h2; have := h y (List.mem_range'_1.2 ⟨h1, h2⟩); simpa using this
  · intro h y hy; rw [List.mem_range'_1] at hy; simp [h y hy.1 hy.2]

theorem fromN_some {f : Nat → Nat} {H at_ wet x : Nat} : fromN f H at_ wet = some x ↔ (at_ ≤ x ∧ x ≤ H ∧ wet ≤ driedN f at_ x ∧ ∀ y, at_ ≤ y → y < x → driedN f at_ y < wet) := by
  unfold fromN hoursL
  rw [find_range']
  simp only [decide_eq_true_eq, decide_eq_false_iff_not, Nat.not_le]
  constructor
  · rintro ⟨h1, h2, h3, h4⟩; exact ⟨h1, by omega, h3, h4⟩
  · rintro ⟨h1, h2, h3, h4⟩; exact ⟨h1, by omega, h3, h4⟩
theorem fromN_none {f : Nat → Nat} {H at_ wet : Nat} : fromN f H at_ wet = none ↔ ∀ y, at_ ≤ y → y ≤ H → driedN f at_ y < wet := by
  unfold fromN hoursL
  rw [find_range'_none]
  simp only [decide_eq_false_iff_not, Nat.not_le]
  exact ⟨fun h y h1 h2 => h y h1 (by omega), fun h y h1 h2 => h y h1 (by omega)⟩

/-- It is dry by an hour. -/
theorem tm_le {f : Nat → Nat} {H at_ wet h : Nat} (hH : H ≤ 12) (hw : 1 ≤ wet) (hh : h ≤ H) : tm f H at_ wet ≤ h ↔ wet ≤ driedN f at_ h := by
  unfold tm
  cases hf : fromN f H at_ wet with
  | some x =>
    obtain ⟨h1, h2, h3, h4⟩ := fromN_some.1 hf
    simp only [Option.getD_some]
    constructor
    · intro hx; exact Nat.le_trans h3 (driedN_up hx)
    · intro hx
      by_cases h5 : h < x
      · by_cases h6 : at_ ≤ h
        · have := h4 h h6 h5; omega
        · rw [driedN_none (by omega)] at hx; omega
      · omega
  | none =>
    simp only [Option.getD_none]
    constructor
    · intro hx; omega
    · intro hx
      by_cases h6 : at_ ≤ h
      · have := fromN_none.1 hf h h6 hh; omega
      · rw [driedN_none (by omega)] at hx; omega
theorem tm_or (f : Nat → Nat) (H at_ wet : Nat) : tm f H at_ wet ≤ H ∨ tm f H at_ wet = 99 := by
  unfold tm
  cases hf : fromN f H at_ wet with
  | some x => exact .inl (fromN_some.1 hf).2.1
  | none => exact .inr rfl
theorem tm_gt {f : Nat → Nat} {H at_ wet : Nat} (hH : H ≤ 12) (ha : at_ ≤ H) (hw : 1 ≤ wet) : at_ < tm f H at_ wet := by
  have := (tm_le (f := f) (at_ := at_) (wet := wet) (h := at_) hH hw ha).1
  rw [driedN_none (Nat.le_refl _)] at this
  omega
/-- Less drying, wetter, later: no sooner. -/
theorem tm_mono {f g : Nat → Nat} {H a a' w w' : Nat} (hH : H ≤ 12) (hw : 1 ≤ w) (hfg : ∀ h, h < H → g h ≤ f h) (ha : a ≤ a') (hww : w ≤ w') : tm f H a w ≤ tm g H a' w' := by
  rcases tm_or g H a' w' with h | h
  · refine (tm_le hH hw h).2 (Nat.le_trans hww (Nat.le_trans ((tm_le hH (by omega) h).1 (Nat.le_refl _)) (driedN_mono (fun x hx => hfg x (by omega)) ha)))
  · rw [h]
    rcases tm_or f H a w with h | h <;> omega

/-! ### Of a rail -/
def Ra.H (r : Ra) : Nat := r.hours.toNat
def Ra.S (r : Ra) : Nat := r.sun.toNat
def Ra.R (r : Ra) : Nat := r.rain.toNat
def Ra.Pe (r : Ra) : Nat := r.perhaps.toNat
/-- The least and the most rain; fine: false, foul: true. -/
def Ra.rains (r : Ra) (foul : Bool) : Nat := if foul then r.R ||| r.Pe else r.R
def Ra.f (r : Ra) (foul : Bool) : Nat → Nat := dr r.S (r.rains foul)
def Ln.wet (l : Ln) (foul : Bool) : Nat := if foul then l.hi.toNat else l.lo.toNat
def Ra.tm (r : Ra) (foul : Bool) (l : Ln) : Nat := Ytcpkkjbkbdmopaa.tm (r.f foul) r.H l.from_.toNat (l.wet foul)
/-- How many towels are not dry. -/
def leftT (t : Ln → Nat) (ls : List Ln) (hour : Nat) : Int := ((ls.filter fun l => decide (hour < t l)).map (·.many)).sum
def Ra.left (r : Ra) (foul : Bool) (hour : Nat) : Int := leftT (r.tm foul) r.lines hour

def Ra.isLn (r : Ra) (i : Int) : Bool := wI i 0 (r.lines.length - 1)
def Ra.isH (r : Ra) (i : Int) : Bool := wI i 0 r.hours
def isMany (n : Int) : Bool := wI n 0 60

/-- Checks ahead of all. -/
def chk (r : Ra) (is : Bool) : Int := if r.ok then (if is then 0 else 2) else 1
def specDry (r : Ra) (i : Int) : (Int × Int) × Int :=
  if r.ok then (if r.isLn i then (match r.lines[i.toNat]? with
    | some l => if r.tm true l ≤ r.H then (((r.tm false l : Nat), (r.tm true l : Nat)), 0) else ((0, 0), 11)
    | none => ((0, 0), 0)) else ((0, 0), 2)) else ((0, 0), 1)
def Ra.wet (r : Ra) (hour : Nat) : Int × Int := (r.left false hour, r.left true hour)
def specWet (r : Ra) (h : Int) : (Int × Int) × Int := if r.ok then (if r.isH h then (r.wet h.toNat, 0) else ((0, 0), 2)) else ((0, 0), 1)
/-- Until when a towel can be hung. -/
def Ra.late (r : Ra) (much hour : Nat) : Option Nat := (List.range hour).reverse.find? fun a => decide (much ≤ driedN (r.f true) a hour)
def specLatest (r : Ra) (much h : Int) : Int × Int := if r.ok then (if r.isH h && wI much 1 8 then (match r.late much.toNat h.toNat with
  | some a => ((a : Nat), 0)
  | none => (0, 4)) else (0, 2)) else (0, 1)
/-- All that is missing. -/
def Ra.all (r : Ra) : Int × Int := hullOf ((truthsA r.tw (-1) 0 0).map fun l => totS (sumT r.tw.bs l))
def Ra.ready (r : Ra) (hour : Nat) : Int × Int := (r.stock - (r.all.2 + r.left true hour), r.stock - (r.all.1 + r.left false hour))
/-- An answer, of rails whose towels have a truth. -/
def ans {α : Type} (r : Ra) (is : Bool) (z : α) (x : α × Int) : α × Int := if r.ok then (if is then (if isT r.tw then x else (z, 10)) else (z, 2)) else (z, 1)
def specReady (r : Ra) (h : Int) : (Int × Int) × Int := ans r (r.isH h) (0, 0) ((max 0 (r.ready h.toNat).1, max 0 (r.ready h.toNat).2), 0)
def specEnough (r : Ra) (h many : Int) : Int × Int := ans r (r.isH h && isMany many) 0 (if many = 0 ∨ many ≤ (r.ready h.toNat).1 then 2 else if (r.ready h.toNat).2 < many then 0 else 1, 0)
def Ra.when (r : Ra) (many : Int) : Option Nat := (hoursL r.H 0).find? fun h => decide (many ≤ max 0 (r.ready h).1)
def specWhen (r : Ra) (many : Int) : Int × Int := ans r (isMany many) 0 (match r.when many with
  | some h => ((h : Nat), 0)
  | none => (0, 4))
def specBuy (r : Ra) (h many : Int) : Int × Int := ans r (r.isH h && isMany many) 0 (if many = 0 then 0 else max 0 (many - (r.ready h.toNat).1), 0)
def specOwes (r : Ra) (i : Int) : (Int × Int) × Int := ans r (r.tw.isB i) (0, 0) (((keptOf r.tw i.toNat).1 * r.price, (keptOf r.tw i.toNat).2 * r.price), 0)

end Go.Proofs.Ytcpkkjbkbdmopaa

/- Compiled code of functions, printed by program; each is checked to be the program's. No conditions. -/
namespace Go.Proofs.Ytcpkkjbkbdmopaa
open Go Go.Ab
/-- dipworks/rail.stopped -/
def c47 : AC :=
 .seq (.seq (.reg [⟨(some 6), none, .mov (.tmp 0)⟩,
 ⟨(some 7), none, .nilcmp false (.tmp 6)⟩])
 (.cond (.tmp 7) (.ret)
 (.skip)))
 (.seq (.reg [⟨(some 9), none, .mov (.tmp 0)⟩,
 ⟨(some 10), none, .tass 131 true (.tmp 9)⟩,
 ⟨(some 8), none, .mov (.tmp 10)⟩,
 ⟨(some 11), none, .ext (.tmp 8) 0⟩,
 ⟨(some 12), none, .ext (.tmp 8) 1⟩,
 ⟨(some 4), none, .alloc [(.int .i64 0)]⟩,
 ⟨none, none, .store 1 (.tmp 4) (.tmp 11)⟩,
 ⟨(some 5), none, .mov (.tmp 12)⟩])
 (.seq (.seq (.reg [⟨(some 13), none, .mov (.tmp 5)⟩,
 ⟨(some 14), none, .un .not (.tmp 13)⟩])
 (.cond (.tmp 14) (.reg [⟨(some 15), none, .mov (.tmp 0)⟩,
 ⟨none, none, .pan (.tmp 15)⟩])
 (.skip)))
 (.reg [⟨(some 16), none, .mov (.tmp 1)⟩,
 ⟨(some 17), none, .faddr 0 (.tmp 4)⟩,
 ⟨(some 18), none, .load false 1 (.tmp 17)⟩,
 ⟨(some 19), none, .nilck (.tmp 16)⟩,
 ⟨none, none, .store 1 (.tmp 19) (.tmp 18)⟩])))
theorem k47 : FnC Try.prog 47 20 [] [] [] c47 2 := ⟨Try.f47, _, Try.func47, rfl, by decide, rfl, by decide, by kernel_rfl, by kernel_rfl⟩
/-- dipworks/rail.check -/
def c48 : AC :=
 .seq (.reg [⟨(some 2), none, .box (.tmp 0)⟩])
 (.seq (.reg [⟨(some 10), none, .faddr 0 (.tmp 2)⟩,
 ⟨(some 11), none, .load true 3 (.tmp 10)⟩,
 ⟨(some 12), none, .call (.fn 99) [(.tmp 11), (.lit (.int .i64 (-1)))]⟩,
 ⟨(some 9), none, .mov (.tmp 12)⟩,
 ⟨(some 13), none, .ext (.tmp 9) 0⟩,
 ⟨(some 14), none, .ext (.tmp 9) 1⟩,
 ⟨(some 4), none, .alloc [(.int .i64 0), (.int .i64 0)]⟩,
 ⟨none, none, .store 2 (.tmp 4) (.tmp 13)⟩,
 ⟨(some 5), none, .mov (.tmp 14)⟩])
 (.seq (.reg [⟨(some 15), none, .mov (.tmp 5)⟩,
 ⟨(some 16), none, .bin .eql (.tmp 15) (.lit (.int .i64 2))⟩,
 ⟨(some 17), none, .mov (.tmp 16)⟩,
 ⟨(some 18), (some (17, true)), .faddr 3 (.tmp 2)⟩,
 ⟨(some 19), (some (17, true)), .load false 1 (.tmp 18)⟩,
 ⟨(some 20), (some (17, true)), .call (.fn 66) [(.tmp 19), (.lit (.int .i64 0)), (.lit (.int .i64 60))]⟩,
 ⟨(some 21), none, .pick (.tmp 17) (.tmp 20) (.lit (.bool false))⟩,
 ⟨(some 22), none, .mov (.tmp 21)⟩,
 ⟨(some 23), (some (22, true)), .faddr 4 (.tmp 2)⟩,
 ⟨(some 24), (some (22, true)), .load false 1 (.tmp 23)⟩,
 ⟨(some 25), (some (22, true)), .call (.fn 66) [(.tmp 24), (.lit (.int .i64 1)), (.lit (.int .i64 12))]⟩,
 ⟨(some 26), none, .pick (.tmp 22) (.tmp 25) (.lit (.bool false))⟩,
 ⟨(some 27), none, .mov (.tmp 26)⟩,
 ⟨(some 28), (some (27, true)), .faddr 9 (.tmp 2)⟩,
 ⟨(some 29), (some (27, true)), .load false 1 (.tmp 28)⟩,
 ⟨(some 30), (some (27, true)), .call (.fn 66) [(.tmp 29), (.lit (.int .i64 0)), (.lit (.int .i64 20))]⟩,
 ⟨(some 31), none, .pick (.tmp 27) (.tmp 30) (.lit (.bool false))⟩,
 ⟨(some 32), none, .mov (.tmp 31)⟩,
 ⟨(some 33), (some (32, true)), .faddr 8 (.tmp 2)⟩,
 ⟨(some 34), (some (32, true)), .load false 1 (.tmp 33)⟩,
 ⟨(some 35), (some (32, true)), .len (.tmp 34)⟩,
 ⟨(some 36), (some (32, true)), .bin .leq (.tmp 35) (.lit (.int .i64 4))⟩,
 ⟨(some 37), none, .pick (.tmp 32) (.tmp 36) (.lit (.bool false))⟩,
 ⟨(some 38), none, .call (.fn 67) [(.tmp 37), (.lit (.int .i64 1))]⟩])
 (.seq (.reg [⟨(some 39), none, .mkfn (.func 100) [] [(.tmp 2)]⟩,
 ⟨(some 6), none, .mov (.tmp 39)⟩])
 (.seq (.reg [⟨(some 40), none, .mov (.tmp 6)⟩,
 ⟨(some 41), none, .faddr 5 (.tmp 2)⟩,
 ⟨(some 42), none, .load false 1 (.tmp 41)⟩,
 ⟨(some 43), none, .call (.tmp 40) [(.tmp 42)]⟩,
 ⟨(some 44), none, .mov (.tmp 43)⟩,
 ⟨(some 45), (some (44, true)), .mov (.tmp 6)⟩,
 ⟨(some 46), (some (44, true)), .faddr 6 (.tmp 2)⟩,
 ⟨(some 47), (some (44, true)), .load false 1 (.tmp 46)⟩,
 ⟨(some 48), (some (44, true)), .call (.tmp 45) [(.tmp 47)]⟩,
 ⟨(some 49), none, .pick (.tmp 44) (.tmp 48) (.lit (.bool false))⟩,
 ⟨(some 50), none, .mov (.tmp 49)⟩,
 ⟨(some 51), (some (50, true)), .mov (.tmp 6)⟩,
 ⟨(some 52), (some (50, true)), .faddr 7 (.tmp 2)⟩,
 ⟨(some 53), (some (50, true)), .load false 1 (.tmp 52)⟩,
 ⟨(some 54), (some (50, true)), .call (.tmp 51) [(.tmp 53)]⟩,
 ⟨(some 55), none, .pick (.tmp 50) (.tmp 54) (.lit (.bool false))⟩,
 ⟨(some 56), none, .call (.fn 67) [(.tmp 55), (.lit (.int .i64 1))]⟩])
 (.seq (.seq (.reg [⟨(some 57), none, .faddr 8 (.tmp 2)⟩,
 ⟨(some 58), none, .load false 1 (.tmp 57)⟩,
 ⟨(some 59), none, .len (.tmp 58)⟩,
 ⟨(some 60), none, .mov (.lit (.int .i64 0))⟩])
 (.block 0 (.loop (.seq (.reg [⟨(some 61), none, .bin .lss (.tmp 60) (.tmp 59)⟩])
 (.seq (.cond (.tmp 61) (.skip)
 (.exit 0))
 (.seq (.block 1 (.seq (.reg [⟨(some 62), none, .iaddr 4 (.tmp 58) (.tmp 60)⟩,
 ⟨(some 63), none, .load true 4 (.tmp 62)⟩,
 ⟨(some 8), none, .alloc [(.int .i64 0), (.int .i64 0), (.int .i64 0), (.int .i64 0)]⟩,
 ⟨none, none, .store 4 (.tmp 8) (.tmp 63)⟩])
 (.reg [⟨(some 64), none, .faddr 0 (.tmp 8)⟩,
 ⟨(some 65), none, .load false 1 (.tmp 64)⟩,
 ⟨(some 66), none, .call (.fn 66) [(.tmp 65), (.lit (.int .i64 1)), (.lit (.int .i64 6))]⟩,
 ⟨(some 67), none, .mov (.tmp 66)⟩,
 ⟨(some 68), (some (67, true)), .faddr 1 (.tmp 8)⟩,
 ⟨(some 69), (some (67, true)), .load false 1 (.tmp 68)⟩,
 ⟨(some 70), (some (67, true)), .faddr 4 (.tmp 2)⟩,
 ⟨(some 71), (some (67, true)), .load false 1 (.tmp 70)⟩,
 ⟨(some 72), (some (67, true)), .bin .sub (.tmp 71) (.lit (.int .i64 1))⟩,
 ⟨(some 73), (some (67, true)), .call (.fn 66) [(.tmp 69), (.lit (.int .i64 0)), (.tmp 72)]⟩,
 ⟨(some 74), none, .pick (.tmp 67) (.tmp 73) (.lit (.bool false))⟩,
 ⟨(some 75), none, .mov (.tmp 74)⟩,
 ⟨(some 76), (some (75, true)), .faddr 2 (.tmp 8)⟩,
 ⟨(some 77), (some (75, true)), .faddr 0 (.tmp 76)⟩,
 ⟨(some 78), (some (75, true)), .load false 1 (.tmp 77)⟩,
 ⟨(some 79), (some (75, true)), .bin .leq (.lit (.int .i64 1)) (.tmp 78)⟩,
 ⟨(some 80), none, .pick (.tmp 75) (.tmp 79) (.lit (.bool false))⟩,
 ⟨(some 81), none, .mov (.tmp 80)⟩,
 ⟨(some 82), (some (81, true)), .faddr 2 (.tmp 8)⟩,
 ⟨(some 83), (some (81, true)), .faddr 0 (.tmp 82)⟩,
 ⟨(some 84), (some (81, true)), .load false 1 (.tmp 83)⟩,
 ⟨(some 85), (some (81, true)), .faddr 2 (.tmp 8)⟩,
 ⟨(some 86), (some (81, true)), .faddr 1 (.tmp 85)⟩,
 ⟨(some 87), (some (81, true)), .load false 1 (.tmp 86)⟩,
 ⟨(some 88), (some (81, true)), .bin .leq (.tmp 84) (.tmp 87)⟩,
 ⟨(some 89), none, .pick (.tmp 81) (.tmp 88) (.lit (.bool false))⟩,
 ⟨(some 90), none, .mov (.tmp 89)⟩,
 ⟨(some 91), (some (90, true)), .faddr 2 (.tmp 8)⟩,
 ⟨(some 92), (some (90, true)), .faddr 1 (.tmp 91)⟩,
 ⟨(some 93), (some (90, true)), .load false 1 (.tmp 92)⟩,
 ⟨(some 94), (some (90, true)), .bin .leq (.tmp 93) (.lit (.int .i64 8))⟩,
 ⟨(some 95), none, .pick (.tmp 90) (.tmp 94) (.lit (.bool false))⟩,
 ⟨(some 96), none, .call (.fn 67) [(.tmp 95), (.lit (.int .i64 1))]⟩])))
 (.reg [⟨(some 97), none, .bin .add (.tmp 60) (.lit (.int .i64 1))⟩,
 ⟨(some 60), none, .mov (.tmp 97)⟩])))))))
 (.reg [⟨(some 98), none, .mov (.tmp 1)⟩,
 ⟨(some 99), none, .call (.fn 67) [(.tmp 98), (.lit (.int .i64 2))]⟩]))))))
theorem k48 : FnC Try.prog 48 100 [] [] [] c48 2 := ⟨Try.f48, _, Try.func48, rfl, by decide, rfl, by decide, by kernel_rfl, by kernel_rfl⟩
/-- dipworks/rail.isHour -/
def c49 : AC :=
 .seq (.reg [⟨(some 2), none, .box (.tmp 0)⟩,
 ⟨(some 4), none, .mov (.lit (.bool false))⟩])
 (.seq (.reg [⟨(some 5), none, .mov (.tmp 1)⟩,
 ⟨(some 6), none, .faddr 4 (.tmp 2)⟩,
 ⟨(some 7), none, .load false 1 (.tmp 6)⟩,
 ⟨(some 8), none, .call (.fn 66) [(.tmp 5), (.lit (.int .i64 0)), (.tmp 7)]⟩,
 ⟨(some 4), none, .mov (.tmp 8)⟩])
 (.ret))
theorem k49 : FnC Try.prog 49 9 [] [] [.tmp 4] c49 2 := ⟨Try.f49, _, Try.func49, rfl, by decide, rfl, by decide, by kernel_rfl, by kernel_rfl⟩
/-- dipworks/rail.ready -/
def c50 : AC :=
 .seq (.reg [⟨(some 2), none, .box (.tmp 0)⟩,
 ⟨(some 4), none, .alloc [(.int .i64 0), (.int .i64 0)]⟩])
 (.seq (.reg [⟨(some 9), none, .faddr 0 (.tmp 2)⟩,
 ⟨(some 10), none, .load true 3 (.tmp 9)⟩,
 ⟨(some 11), none, .call (.fn 15) [(.tmp 10)]⟩,
 ⟨(some 8), none, .mov (.tmp 11)⟩,
 ⟨(some 12), none, .ext (.tmp 8) 0⟩,
 ⟨(some 13), none, .ext (.tmp 8) 1⟩,
 ⟨(some 5), none, .alloc [(.int .i64 0), (.int .i64 0)]⟩,
 ⟨none, none, .store 2 (.tmp 5) (.tmp 12)⟩,
 ⟨(some 6), none, .mov (.tmp 13)⟩])
 (.seq (.reg [⟨(some 14), none, .mov (.tmp 6)⟩,
 ⟨(some 15), none, .bin .eql (.tmp 14) (.lit (.int .i64 0))⟩,
 ⟨(some 16), none, .mov (.tmp 6)⟩,
 ⟨(some 17), none, .call (.fn 67) [(.tmp 15), (.tmp 16)]⟩])
 (.seq (.reg [⟨(some 18), none, .load true 10 (.tmp 2)⟩,
 ⟨(some 19), none, .mov (.tmp 1)⟩,
 ⟨(some 20), none, .call (.fn 83) [(.tmp 18), (.tmp 19)]⟩,
 ⟨(some 7), none, .alloc [(.int .i64 0), (.int .i64 0)]⟩,
 ⟨none, none, .store 2 (.tmp 7) (.tmp 20)⟩])
 (.seq (.draw (.step ⟨(some 21), none, .faddr 3 (.tmp 2)⟩ (
 .step ⟨(some 22), none, .load false 1 (.tmp 21)⟩ (
 .step ⟨(some 23), none, .faddr 1 (.tmp 5)⟩ (
 .step ⟨(some 24), none, .load false 1 (.tmp 23)⟩ (
 .step ⟨(some 25), none, .faddr 1 (.tmp 7)⟩ (
 .step ⟨(some 26), none, .load false 1 (.tmp 25)⟩ (
 .step ⟨(some 30), none, .faddr 3 (.tmp 2)⟩ (
 .step ⟨(some 31), none, .load false 1 (.tmp 30)⟩ (
 .step ⟨(some 32), none, .faddr 0 (.tmp 5)⟩ (
 .step ⟨(some 33), none, .load false 1 (.tmp 32)⟩ (
 .step ⟨(some 34), none, .faddr 0 (.tmp 7)⟩ (
 .step ⟨(some 35), none, .load false 1 (.tmp 34)⟩ (
 .ev ⟨(some 27), none, .bslice 1 (.int .i64 0) 2 [(0, (.tmp 24)), (1, (.tmp 26))]⟩ [⟨(some 35), none, .load false 1 (.tmp 34)⟩, ⟨(some 34), none, .faddr 0 (.tmp 7)⟩, ⟨(some 33), none, .load false 1 (.tmp 32)⟩, ⟨(some 32), none, .faddr 0 (.tmp 5)⟩, ⟨(some 31), none, .load false 1 (.tmp 30)⟩, ⟨(some 30), none, .faddr 3 (.tmp 2)⟩, ⟨(some 25), none, .faddr 1 (.tmp 7)⟩, ⟨(some 23), none, .faddr 1 (.tmp 5)⟩, ⟨(some 22), none, .load false 1 (.tmp 21)⟩, ⟨(some 21), none, .faddr 3 (.tmp 2)⟩] (
 .ev ⟨(some 28), none, .call (.fn 101) [(.tmp 27)]⟩ [⟨(some 35), none, .load false 1 (.tmp 34)⟩, ⟨(some 34), none, .faddr 0 (.tmp 7)⟩, ⟨(some 33), none, .load false 1 (.tmp 32)⟩, ⟨(some 32), none, .faddr 0 (.tmp 5)⟩, ⟨(some 31), none, .load false 1 (.tmp 30)⟩, ⟨(some 30), none, .faddr 3 (.tmp 2)⟩, ⟨(some 26), none, .load false 1 (.tmp 25)⟩, ⟨(some 25), none, .faddr 1 (.tmp 7)⟩, ⟨(some 24), none, .load false 1 (.tmp 23)⟩, ⟨(some 23), none, .faddr 1 (.tmp 5)⟩, ⟨(some 22), none, .load false 1 (.tmp 21)⟩, ⟨(some 21), none, .faddr 3 (.tmp 2)⟩] (
 .step ⟨(some 29), none, .bin .sub (.tmp 22) (.tmp 28)⟩ (
 .ev ⟨(some 36), none, .bslice 1 (.int .i64 0) 2 [(0, (.tmp 33)), (1, (.tmp 35))]⟩ [⟨(some 34), none, .faddr 0 (.tmp 7)⟩, ⟨(some 32), none, .faddr 0 (.tmp 5)⟩, ⟨(some 31), none, .load false 1 (.tmp 30)⟩, ⟨(some 30), none, .faddr 3 (.tmp 2)⟩, ⟨(some 26), none, .load false 1 (.tmp 25)⟩, ⟨(some 25), none, .faddr 1 (.tmp 7)⟩, ⟨(some 24), none, .load false 1 (.tmp 23)⟩, ⟨(some 23), none, .faddr 1 (.tmp 5)⟩, ⟨(some 22), none, .load false 1 (.tmp 21)⟩, ⟨(some 21), none, .faddr 3 (.tmp 2)⟩] (
 .ev ⟨(some 37), none, .call (.fn 101) [(.tmp 36)]⟩ [⟨(some 35), none, .load false 1 (.tmp 34)⟩, ⟨(some 34), none, .faddr 0 (.tmp 7)⟩, ⟨(some 33), none, .load false 1 (.tmp 32)⟩, ⟨(some 32), none, .faddr 0 (.tmp 5)⟩, ⟨(some 31), none, .load false 1 (.tmp 30)⟩, ⟨(some 30), none, .faddr 3 (.tmp 2)⟩, ⟨(some 26), none, .load false 1 (.tmp 25)⟩, ⟨(some 25), none, .faddr 1 (.tmp 7)⟩, ⟨(some 24), none, .load false 1 (.tmp 23)⟩, ⟨(some 23), none, .faddr 1 (.tmp 5)⟩, ⟨(some 22), none, .load false 1 (.tmp 21)⟩, ⟨(some 21), none, .faddr 3 (.tmp 2)⟩] (
 .step ⟨(some 38), none, .bin .sub (.tmp 31) (.tmp 37)⟩ (
 .step ⟨(some 39), none, .build [(.int .i64 0), (.int .i64 0)] [(0, 1, (.tmp 29)), (1, 1, (.tmp 38))]⟩ (
 .ev ⟨none, none, .store 2 (.tmp 4) (.tmp 39)⟩ [] (
 .done)
 (.stop))))
 (.stop))
 (.stop)))
 (.ev ⟨(some 36), none, .bslice 1 (.int .i64 0) 2 [(0, (.tmp 33)), (1, (.tmp 35))]⟩ [⟨(some 34), none, .faddr 0 (.tmp 7)⟩, ⟨(some 32), none, .faddr 0 (.tmp 5)⟩, ⟨(some 31), none, .load false 1 (.tmp 30)⟩, ⟨(some 30), none, .faddr 3 (.tmp 2)⟩, ⟨(some 26), none, .load false 1 (.tmp 25)⟩, ⟨(some 25), none, .faddr 1 (.tmp 7)⟩, ⟨(some 24), none, .load false 1 (.tmp 23)⟩, ⟨(some 23), none, .faddr 1 (.tmp 5)⟩, ⟨(some 22), none, .load false 1 (.tmp 21)⟩, ⟨(some 21), none, .faddr 3 (.tmp 2)⟩] (
 .ev ⟨(some 28), none, .call (.fn 101) [(.tmp 27)]⟩ [⟨(some 35), none, .load false 1 (.tmp 34)⟩, ⟨(some 34), none, .faddr 0 (.tmp 7)⟩, ⟨(some 33), none, .load false 1 (.tmp 32)⟩, ⟨(some 32), none, .faddr 0 (.tmp 5)⟩, ⟨(some 31), none, .load false 1 (.tmp 30)⟩, ⟨(some 30), none, .faddr 3 (.tmp 2)⟩, ⟨(some 26), none, .load false 1 (.tmp 25)⟩, ⟨(some 25), none, .faddr 1 (.tmp 7)⟩, ⟨(some 24), none, .load false 1 (.tmp 23)⟩, ⟨(some 23), none, .faddr 1 (.tmp 5)⟩, ⟨(some 22), none, .load false 1 (.tmp 21)⟩, ⟨(some 21), none, .faddr 3 (.tmp 2)⟩] (
 .step ⟨(some 29), none, .bin .sub (.tmp 22) (.tmp 28)⟩ (
 .ev ⟨(some 37), none, .call (.fn 101) [(.tmp 36)]⟩ [⟨(some 35), none, .load false 1 (.tmp 34)⟩, ⟨(some 34), none, .faddr 0 (.tmp 7)⟩, ⟨(some 33), none, .load false 1 (.tmp 32)⟩, ⟨(some 32), none, .faddr 0 (.tmp 5)⟩, ⟨(some 31), none, .load false 1 (.tmp 30)⟩, ⟨(some 30), none, .faddr 3 (.tmp 2)⟩, ⟨(some 26), none, .load false 1 (.tmp 25)⟩, ⟨(some 25), none, .faddr 1 (.tmp 7)⟩, ⟨(some 24), none, .load false 1 (.tmp 23)⟩, ⟨(some 23), none, .faddr 1 (.tmp 5)⟩, ⟨(some 22), none, .load false 1 (.tmp 21)⟩, ⟨(some 21), none, .faddr 3 (.tmp 2)⟩] (
 .step ⟨(some 38), none, .bin .sub (.tmp 31) (.tmp 37)⟩ (
 .step ⟨(some 39), none, .build [(.int .i64 0), (.int .i64 0)] [(0, 1, (.tmp 29)), (1, 1, (.tmp 38))]⟩ (
 .ev ⟨none, none, .store 2 (.tmp 4) (.tmp 39)⟩ [] (
 .done)
 (.stop))))
 (.stop)))
 (.stop))
 (.stop)))
 (.ev ⟨(some 36), none, .bslice 1 (.int .i64 0) 2 [(0, (.tmp 33)), (1, (.tmp 35))]⟩ [⟨(some 34), none, .faddr 0 (.tmp 7)⟩, ⟨(some 32), none, .faddr 0 (.tmp 5)⟩, ⟨(some 31), none, .load false 1 (.tmp 30)⟩, ⟨(some 30), none, .faddr 3 (.tmp 2)⟩, ⟨(some 26), none, .load false 1 (.tmp 25)⟩, ⟨(some 25), none, .faddr 1 (.tmp 7)⟩, ⟨(some 24), none, .load false 1 (.tmp 23)⟩, ⟨(some 23), none, .faddr 1 (.tmp 5)⟩, ⟨(some 22), none, .load false 1 (.tmp 21)⟩, ⟨(some 21), none, .faddr 3 (.tmp 2)⟩] (
 .ev ⟨(some 27), none, .bslice 1 (.int .i64 0) 2 [(0, (.tmp 24)), (1, (.tmp 26))]⟩ [⟨(some 35), none, .load false 1 (.tmp 34)⟩, ⟨(some 34), none, .faddr 0 (.tmp 7)⟩, ⟨(some 33), none, .load false 1 (.tmp 32)⟩, ⟨(some 32), none, .faddr 0 (.tmp 5)⟩, ⟨(some 31), none, .load false 1 (.tmp 30)⟩, ⟨(some 30), none, .faddr 3 (.tmp 2)⟩, ⟨(some 25), none, .faddr 1 (.tmp 7)⟩, ⟨(some 23), none, .faddr 1 (.tmp 5)⟩, ⟨(some 22), none, .load false 1 (.tmp 21)⟩, ⟨(some 21), none, .faddr 3 (.tmp 2)⟩] (
 .ev ⟨(some 28), none, .call (.fn 101) [(.tmp 27)]⟩ [⟨(some 35), none, .load false 1 (.tmp 34)⟩, ⟨(some 34), none, .faddr 0 (.tmp 7)⟩, ⟨(some 33), none, .load false 1 (.tmp 32)⟩, ⟨(some 32), none, .faddr 0 (.tmp 5)⟩, ⟨(some 31), none, .load false 1 (.tmp 30)⟩, ⟨(some 30), none, .faddr 3 (.tmp 2)⟩, ⟨(some 26), none, .load false 1 (.tmp 25)⟩, ⟨(some 25), none, .faddr 1 (.tmp 7)⟩, ⟨(some 24), none, .load false 1 (.tmp 23)⟩, ⟨(some 23), none, .faddr 1 (.tmp 5)⟩, ⟨(some 22), none, .load false 1 (.tmp 21)⟩, ⟨(some 21), none, .faddr 3 (.tmp 2)⟩] (
 .step ⟨(some 29), none, .bin .sub (.tmp 22) (.tmp 28)⟩ (
 .ev ⟨(some 37), none, .call (.fn 101) [(.tmp 36)]⟩ [⟨(some 35), none, .load false 1 (.tmp 34)⟩, ⟨(some 34), none, .faddr 0 (.tmp 7)⟩, ⟨(some 33), none, .load false 1 (.tmp 32)⟩, ⟨(some 32), none, .faddr 0 (.tmp 5)⟩, ⟨(some 31), none, .load false 1 (.tmp 30)⟩, ⟨(some 30), none, .faddr 3 (.tmp 2)⟩, ⟨(some 26), none, .load false 1 (.tmp 25)⟩, ⟨(some 25), none, .faddr 1 (.tmp 7)⟩, ⟨(some 24), none, .load false 1 (.tmp 23)⟩, ⟨(some 23), none, .faddr 1 (.tmp 5)⟩, ⟨(some 22), none, .load false 1 (.tmp 21)⟩, ⟨(some 21), none, .faddr 3 (.tmp 2)⟩] (
 .step ⟨(some 38), none, .bin .sub (.tmp 31) (.tmp 37)⟩ (
 .step ⟨(some 39), none, .build [(.int .i64 0), (.int .i64 0)] [(0, 1, (.tmp 29)), (1, 1, (.tmp 38))]⟩ (
 .ev ⟨none, none, .store 2 (.tmp 4) (.tmp 39)⟩ [] (
 .done)
 (.stop))))
 (.stop)))
 (.stop))
 (.stop))
 (.stop))))))))))))))))
 (.ret)))))
theorem k50 : FnC Try.prog 50 40 [4] [] [.cell 4 true 2] c50 2 := ⟨Try.f50, _, Try.func50, rfl, by decide, rfl, by decide, by kernel_rfl, by kernel_rfl⟩
/-- dipworks/rail.within -/
def c66 : AC :=
 .seq (.reg [⟨(some 6), none, .mov (.lit (.bool false))⟩])
 (.seq (.reg [⟨(some 7), none, .mov (.tmp 1)⟩,
 ⟨(some 8), none, .mov (.tmp 0)⟩,
 ⟨(some 9), none, .bin .leq (.tmp 7) (.tmp 8)⟩,
 ⟨(some 10), none, .mov (.tmp 9)⟩,
 ⟨(some 11), (some (10, true)), .mov (.tmp 0)⟩,
 ⟨(some 12), (some (10, true)), .mov (.tmp 2)⟩,
 ⟨(some 13), (some (10, true)), .bin .leq (.tmp 11) (.tmp 12)⟩,
 ⟨(some 14), none, .pick (.tmp 10) (.tmp 13) (.lit (.bool false))⟩,
 ⟨(some 6), none, .mov (.tmp 14)⟩])
 (.ret))
theorem k66 : FnC Try.prog 66 15 [] [] [.tmp 6] c66 3 := ⟨Try.f66, _, Try.func66, rfl, by decide, rfl, by decide, by kernel_rfl, by kernel_rfl⟩
/-- dipworks/rail.must -/
def c67 : AC :=
 .seq (.reg [⟨(some 4), none, .mov (.tmp 0)⟩,
 ⟨(some 5), none, .un .not (.tmp 4)⟩])
 (.cond (.tmp 5) (.reg [⟨(some 6), none, .mov (.tmp 1)⟩,
 ⟨(some 7), none, .build [(.int .i64 0)] [(0, 1, (.tmp 6))]⟩,
 ⟨(some 8), none, .mkif 131 (.tmp 7)⟩,
 ⟨none, none, .pan (.tmp 8)⟩])
 (.skip))
theorem k67 : FnC Try.prog 67 9 [] [] [] c67 2 := ⟨Try.f67, _, Try.func67, rfl, by decide, rfl, by decide, by kernel_rfl, by kernel_rfl⟩
/-- dipworks/rail.in -/
def c75 : AC :=
 .seq (.reg [⟨(some 2), none, .box (.tmp 0)⟩,
 ⟨(some 4), none, .mov (.lit (.pointer none))⟩])
 (.seq (.reg [⟨(some 9), none, .load true 10 (.tmp 2)⟩,
 ⟨(some 10), none, .mov (.tmp 1)⟩,
 ⟨(some 11), none, .mkmap (some [(some .i64), (some .i64)], none)⟩,
 ⟨(some 12), none, .build [(.slice none 0 0), (.slice none 0 0), (.slice none 0 0), (.int .i64 0), (.int .i64 0), (.int .i64 0), (.int .i64 0), (.int .i64 0), (.slice none 0 0), (.int .i64 0), .nilIface, (.int .i64 0), (.int .i64 0), (.int .i64 0), (.int .i64 0), (.int .i64 0), (.int .i64 0), (.int .i64 0), (.int .i64 0), (.int .i64 0), (.int .i64 0), (.int .i64 0), (.int .i64 0), (.map none)] [(0, 10, (.tmp 9)), (10, 1, (.tmp 10)), (23, 1, (.tmp 11))]⟩,
 ⟨(some 13), none, .box (.tmp 12)⟩,
 ⟨(some 5), none, .mov (.tmp 13)⟩])
 (.seq (.draw (.step ⟨(some 14), none, .mov (.tmp 1)⟩ (
 .step ⟨(some 15), none, .load true 10 (.tmp 2)⟩ (
 .step ⟨(some 18), none, .faddr 5 (.tmp 2)⟩ (
 .step ⟨(some 19), none, .load false 1 (.tmp 18)⟩ (
 .step ⟨(some 20), none, .conv .u64 (.tmp 19)⟩ (
 .step ⟨(some 21), none, .mkfn (.func 105) [(.tmp 20)] []⟩ (
 .ev ⟨(some 16), none, .inv [(111, 129), (114, 131)] (.tmp 14) [(.tmp 15)]⟩ [⟨(some 19), none, .load false 1 (.tmp 18)⟩, ⟨(some 18), none, .faddr 5 (.tmp 2)⟩] (
 .step ⟨(some 17), none, .mkfn (.func 105) [(.tmp 16)] []⟩ (
 .step ⟨(some 6), none, .mov (.tmp 17)⟩ (
 .step ⟨(some 7), none, .mov (.tmp 21)⟩ (
 .done))))
 (.stop)))))))))
 (.seq (.seq (.reg [⟨(some 22), none, .faddr 4 (.tmp 2)⟩,
 ⟨(some 23), none, .load false 1 (.tmp 22)⟩,
 ⟨(some 24), none, .mov (.lit (.int .i64 0))⟩])
 (.block 0 (.loop (.seq (.reg [⟨(some 25), none, .bin .lss (.tmp 24) (.tmp 23)⟩])
 (.seq (.cond (.tmp 25) (.skip)
 (.exit 0))
 (.seq (.block 1 (.seq (.reg [⟨(some 26), none, .mov (.tmp 24)⟩,
 ⟨(some 8), none, .mov (.tmp 26)⟩])
 (.block 2 (.seq (.reg [⟨(some 33), none, .mov (.tmp 6)⟩,
 ⟨(some 34), none, .mov (.tmp 8)⟩,
 ⟨(some 35), none, .call (.tmp 33) [(.tmp 34)]⟩,
 ⟨(some 32), none, .mov (.tmp 35)⟩])
 (.cond (.tmp 32) (.skip)
 (.seq (.reg [⟨(some 37), none, .mov (.tmp 7)⟩,
 ⟨(some 38), none, .mov (.tmp 8)⟩,
 ⟨(some 39), none, .call (.tmp 37) [(.tmp 38)]⟩,
 ⟨(some 36), none, .mov (.tmp 39)⟩])
 (.cond (.tmp 36) (.reg [⟨(some 40), none, .mov (.tmp 5)⟩,
 ⟨(some 41), none, .mov (.tmp 8)⟩,
 ⟨(some 42), none, .nilck (.tmp 40)⟩,
 ⟨(some 43), none, .faddr 11 (.tmp 42)⟩,
 ⟨(some 44), none, .iaddrA 12 1 (.tmp 43) (.tmp 41)⟩,
 ⟨none, none, .store 1 (.tmp 44) (.lit (.int .i64 2))⟩])
 (.reg [⟨(some 27), none, .mov (.tmp 5)⟩,
 ⟨(some 28), none, .mov (.tmp 8)⟩,
 ⟨(some 29), none, .nilck (.tmp 27)⟩,
 ⟨(some 30), none, .faddr 11 (.tmp 29)⟩,
 ⟨(some 31), none, .iaddrA 12 1 (.tmp 30) (.tmp 28)⟩,
 ⟨none, none, .store 1 (.tmp 31) (.lit (.int .i64 1))⟩]))))))))
 (.reg [⟨(some 45), none, .bin .add (.tmp 24) (.lit (.int .i64 1))⟩,
 ⟨(some 24), none, .mov (.tmp 45)⟩])))))))
 (.seq (.reg [⟨(some 46), none, .mov (.tmp 5)⟩,
 ⟨(some 4), none, .mov (.tmp 46)⟩])
 (.ret)))))
theorem k75 : FnC Try.prog 75 47 [] [] [.tmp 4] c75 2 := ⟨Try.f75, _, Try.func75, rfl, by decide, rfl, by decide, by kernel_rfl, by kernel_rfl⟩
/-- (*dipworks/rail.yard).from -/
def c76 : AC :=
 .seq (.reg [⟨(some 2), none, .box (.tmp 0)⟩,
 ⟨(some 3), none, .box (.tmp 1)⟩,
 ⟨(some 4), none, .mov (.lit (.int .i64 0))⟩,
 ⟨(some 5), none, .mov (.lit (.bool false))⟩])
 (.seq (.seq (.gcp)
 (.reg [⟨(some 6), none, .load false 1 (.tmp 2)⟩,
 ⟨(some 7), none, .faddr 1 (.tmp 3)⟩,
 ⟨(some 8), none, .load false 1 (.tmp 7)⟩,
 ⟨(some 9), none, .call (.fn 96) [(.tmp 6), (.tmp 8)]⟩,
 ⟨(some 10), none, .mkfn (.func 106) [] [(.tmp 2), (.tmp 3)]⟩,
 ⟨(some 11), none, .build [.nilFunc] [(0, 1, (.tmp 10))]⟩,
 ⟨(some 12), none, .call (.fn 88) [(.tmp 9), (.tmp 11)]⟩,
 ⟨(some 13), none, .ext (.tmp 12) 0⟩,
 ⟨(some 14), none, .ext (.tmp 12) 1⟩,
 ⟨(some 4), none, .mov (.tmp 13)⟩,
 ⟨(some 5), none, .mov (.tmp 14)⟩]))
 (.ret))
theorem k76 : FnC Try.prog 76 15 [] [1] [.tmp 4, .tmp 5] c76 2 := ⟨Try.f76, _, Try.func76, rfl, by decide, rfl, by decide, by kernel_rfl, by kernel_rfl⟩
/-- dipworks/rail.wet -/
def c83 : AC :=
 .seq (.reg [⟨(some 2), none, .box (.tmp 0)⟩,
 ⟨(some 4), none, .alloc [(.int .i64 0), (.int .i64 0)]⟩])
 (.seq (.draw (.step ⟨(some 5), none, .load true 10 (.tmp 2)⟩ (
 .step ⟨(some 6), none, .build [] []⟩ (
 .step ⟨(some 7), none, .mkif 111 (.tmp 6)⟩ (
 .step ⟨(some 9), none, .mov (.tmp 1)⟩ (
 .step ⟨(some 11), none, .load true 10 (.tmp 2)⟩ (
 .step ⟨(some 12), none, .build [] []⟩ (
 .step ⟨(some 13), none, .mkif 114 (.tmp 12)⟩ (
 .step ⟨(some 15), none, .mov (.tmp 1)⟩ (
 .ev ⟨(some 8), none, .call (.fn 75) [(.tmp 5), (.tmp 7)]⟩ [⟨(some 11), none, .load true 10 (.tmp 2)⟩] (
 .ev ⟨(some 10), none, .call (.fn 108) [(.tmp 8), (.tmp 9)]⟩ [⟨(some 11), none, .load true 10 (.tmp 2)⟩, ⟨(some 5), none, .load true 10 (.tmp 2)⟩] (
 .ev ⟨(some 14), none, .call (.fn 75) [(.tmp 11), (.tmp 13)]⟩ [⟨(some 5), none, .load true 10 (.tmp 2)⟩] (
 .ev ⟨(some 16), none, .call (.fn 108) [(.tmp 14), (.tmp 15)]⟩ [⟨(some 11), none, .load true 10 (.tmp 2)⟩, ⟨(some 5), none, .load true 10 (.tmp 2)⟩] (
 .step ⟨(some 17), none, .build [(.int .i64 0), (.int .i64 0)] [(0, 1, (.tmp 10)), (1, 1, (.tmp 16))]⟩ (
 .ev ⟨none, none, .store 2 (.tmp 4) (.tmp 17)⟩ [] (
 .done)
 (.stop)))
 (.stop))
 (.stop))
 (.stop))
 (.stop)))))))))))
 (.ret))
theorem k83 : FnC Try.prog 83 18 [4] [] [.cell 4 true 2] c83 2 := ⟨Try.f83, _, Try.func83, rfl, by decide, rfl, by decide, by kernel_rfl, by kernel_rfl⟩
/-- slices.Reverse[[]int,int] -/
def c87 : AC :=
 .seq (.reg [⟨(some 4), none, .mov (.tmp 0)⟩,
 ⟨(some 5), none, .len (.tmp 4)⟩,
 ⟨(some 6), none, .bin .sub (.tmp 5) (.lit (.int .i64 1))⟩,
 ⟨(some 2), none, .mov (.lit (.int .i64 0))⟩,
 ⟨(some 3), none, .mov (.tmp 6)⟩])
 (.block 0 (.loop (.seq (.seq (.reg [⟨(some 7), none, .mov (.tmp 2)⟩,
 ⟨(some 8), none, .mov (.tmp 3)⟩,
 ⟨(some 9), none, .bin .lss (.tmp 7) (.tmp 8)⟩])
 (.cond (.tmp 9) (.skip)
 (.exit 0)))
 (.seq (.block 1 (.draw (.step ⟨(some 14), none, .mov (.tmp 0)⟩ (
 .step ⟨(some 15), none, .mov (.tmp 2)⟩ (
 .step ⟨(some 16), none, .mov (.tmp 0)⟩ (
 .step ⟨(some 17), none, .mov (.tmp 3)⟩ (
 .step ⟨(some 18), none, .mov (.tmp 0)⟩ (
 .step ⟨(some 19), none, .mov (.tmp 3)⟩ (
 .step ⟨(some 20), none, .iaddr 1 (.tmp 18) (.tmp 19)⟩ (
 .step ⟨(some 21), none, .load false 1 (.tmp 20)⟩ (
 .step ⟨(some 22), none, .mov (.tmp 0)⟩ (
 .step ⟨(some 23), none, .mov (.tmp 2)⟩ (
 .step ⟨(some 24), none, .iaddr 1 (.tmp 22) (.tmp 23)⟩ (
 .step ⟨(some 25), none, .load false 1 (.tmp 24)⟩ (
 .step ⟨(some 26), none, .iaddr 1 (.tmp 14) (.tmp 15)⟩ (
 .ev ⟨none, none, .store 1 (.tmp 26) (.tmp 21)⟩ [⟨(some 24), none, .iaddr 1 (.tmp 22) (.tmp 23)⟩] (
 .step ⟨(some 27), none, .iaddr 1 (.tmp 16) (.tmp 17)⟩ (
 .ev ⟨none, none, .store 1 (.tmp 27) (.tmp 25)⟩ [] (
 .done)
 (.stop)))
 (.stop)))))))))))))))))
 (.reg [⟨(some 10), none, .mov (.tmp 2)⟩,
 ⟨(some 11), none, .bin .add (.tmp 10) (.lit (.int .i64 1))⟩,
 ⟨(some 12), none, .mov (.tmp 3)⟩,
 ⟨(some 13), none, .bin .sub (.tmp 12) (.lit (.int .i64 1))⟩,
 ⟨(some 2), none, .mov (.tmp 11)⟩,
 ⟨(some 3), none, .mov (.tmp 13)⟩])))))
theorem k87 : FnC Try.prog 87 28 [] [] [] c87 1 := ⟨Try.f87, _, Try.func87, rfl, by decide, rfl, by decide, by kernel_rfl, by kernel_rfl⟩
/-- dipworks/rail.first[int] -/
def c88 : AC :=
 .seq (.reg [⟨(some 3), none, .box (.tmp 1)⟩,
 ⟨(some 4), none, .alloc [(.int .i64 0)]⟩,
 ⟨(some 5), none, .alloc [(.bool false)]⟩])
 (.seq (.seq (.reg [⟨(some 7), none, .mov (.tmp 0)⟩])
 (.block 0 (.seq (.gcp)
 (.rangeF (.tmp 7) 8 (.reg [⟨(some 6), none, .mov (.tmp 8)⟩])
 (.block 1 (.seq (.reg [⟨(some 9), none, .faddr 0 (.tmp 3)⟩,
 ⟨(some 10), none, .load false 1 (.tmp 9)⟩,
 ⟨(some 11), none, .mov (.tmp 6)⟩,
 ⟨(some 12), none, .call (.tmp 10) [(.tmp 11)]⟩])
 (.cond (.tmp 12) (.seq (.reg [⟨(some 13), none, .mov (.tmp 6)⟩,
 ⟨none, none, .store 1 (.tmp 4) (.tmp 13)⟩,
 ⟨none, none, .store 1 (.tmp 5) (.lit (.bool true))⟩])
 (.ret))
 (.skip))))))))
 (.seq (.reg [⟨(some 14), none, .load false 1 (.tmp 4)⟩,
 ⟨none, none, .store 1 (.tmp 4) (.tmp 14)⟩,
 ⟨none, none, .store 1 (.tmp 5) (.lit (.bool false))⟩])
 (.ret)))
theorem k88 : FnC Try.prog 88 15 [4, 5] [1000000] [.cell 4 false 1, .cell 5 false 1] c88 2 := ⟨Try.f88, _, Try.func88, rfl, by decide, rfl, by decide, by kernel_rfl, by kernel_rfl⟩
/-- slices.Values[[]int,int] -/
def c89 : AC :=
 .seq (.reg [⟨(some 1), none, .box (.tmp 0)⟩,
 ⟨(some 2), none, .mov (.lit .nilFunc)⟩])
 (.seq (.reg [⟨(some 3), none, .mkfn (.func 110) [] [(.tmp 1)]⟩,
 ⟨(some 2), none, .mov (.tmp 3)⟩])
 (.ret))
theorem k89 : FnC Try.prog 89 4 [] [] [.tmp 2] c89 1 := ⟨Try.f89, _, Try.func89, rfl, by decide, rfl, by decide, by kernel_rfl, by kernel_rfl⟩
/-- dipworks/rail.Latest$2 -/
def c90 : AC :=
 .seq (.reg [⟨(some 5), none, .mov (.lit (.bool false))⟩])
 (.seq (.draw (.step ⟨(some 6), none, .load false 1 (.tmp 1)⟩ (
 .step ⟨(some 7), none, .mov (.tmp 0)⟩ (
 .step ⟨(some 8), none, .load false 1 (.tmp 2)⟩ (
 .step ⟨(some 9), none, .build [(.int .i64 0), (.int .i64 0)] [(0, 1, (.tmp 7)), (1, 1, (.tmp 8))]⟩ (
 .step ⟨(some 11), none, .load false 1 (.tmp 3)⟩ (
 .ev ⟨(some 10), none, .call (.fn 91) [(.tmp 6), (.tmp 9)]⟩ [⟨(some 11), none, .load false 1 (.tmp 3)⟩, ⟨(some 8), none, .load false 1 (.tmp 2)⟩] (
 .step ⟨(some 12), none, .bin .geq (.tmp 10) (.tmp 11)⟩ (
 .step ⟨(some 5), none, .mov (.tmp 12)⟩ (
 .done)))
 (.stop))))))))
 (.ret))
theorem k90 : FnC Try.prog 90 13 [] [] [.tmp 5] c90 4 := ⟨Try.f90, _, Try.func90, rfl, by decide, rfl, by decide, by kernel_rfl, by kernel_rfl⟩
/-- (*dipworks/rail.yard).dried -/
def c91 : AC :=
 .seq (.reg [⟨(some 3), none, .box (.tmp 1)⟩,
 ⟨(some 4), none, .mov (.lit (.int .i64 0))⟩])
 (.seq (.seq (.reg [⟨(some 7), none, .faddr 0 (.tmp 3)⟩,
 ⟨(some 8), none, .load false 1 (.tmp 7)⟩,
 ⟨(some 9), none, .faddr 1 (.tmp 3)⟩,
 ⟨(some 10), none, .load false 1 (.tmp 9)⟩,
 ⟨(some 11), none, .bin .geq (.tmp 8) (.tmp 10)⟩])
 (.cond (.tmp 11) (.seq (.reg [⟨(some 4), none, .mov (.lit (.int .i64 0))⟩])
 (.ret))
 (.skip)))
 (.seq (.seq (.draw (.step ⟨(some 13), none, .mov (.tmp 0)⟩ (
 .step ⟨(some 14), none, .nilck (.tmp 13)⟩ (
 .step ⟨(some 15), none, .faddr 23 (.tmp 14)⟩ (
 .step ⟨(some 16), none, .load false 1 (.tmp 15)⟩ (
 .step ⟨(some 17), none, .load true 2 (.tmp 3)⟩ (
 .step ⟨(some 18), none, .look (some [(some .i64), (some .i64)], none) (.int .i64 0) true (.tmp 16) (.tmp 17)⟩ (
 .step ⟨(some 12), none, .mov (.tmp 18)⟩ (
 .step ⟨(some 19), none, .ext (.tmp 12) 0⟩ (
 .step ⟨(some 20), none, .ext (.tmp 12) 1⟩ (
 .step ⟨(some 5), none, .mov (.tmp 19)⟩ (
 .step ⟨(some 6), none, .mov (.tmp 20)⟩ (
 .done)))))))))))))
 (.seq (.reg [⟨(some 21), none, .mov (.tmp 6)⟩])
 (.cond (.tmp 21) (.seq (.reg [⟨(some 22), none, .mov (.tmp 5)⟩,
 ⟨(some 4), none, .mov (.tmp 22)⟩])
 (.ret))
 (.skip))))
 (.seq (.draw (.step ⟨(some 23), none, .mov (.tmp 0)⟩ (
 .step ⟨(some 24), none, .nilck (.tmp 23)⟩ (
 .step ⟨(some 25), none, .faddr 23 (.tmp 24)⟩ (
 .step ⟨(some 26), none, .load false 1 (.tmp 25)⟩ (
 .step ⟨(some 27), none, .load true 2 (.tmp 3)⟩ (
 .step ⟨(some 28), none, .mov (.tmp 0)⟩ (
 .step ⟨(some 29), none, .faddr 0 (.tmp 3)⟩ (
 .step ⟨(some 30), none, .load false 1 (.tmp 29)⟩ (
 .step ⟨(some 31), none, .faddr 1 (.tmp 3)⟩ (
 .step ⟨(some 32), none, .load false 1 (.tmp 31)⟩ (
 .step ⟨(some 33), none, .bin .sub (.tmp 32) (.lit (.int .i64 1))⟩ (
 .step ⟨(some 34), none, .build [(.int .i64 0), (.int .i64 0)] [(0, 1, (.tmp 30)), (1, 1, (.tmp 33))]⟩ (
 .step ⟨(some 36), none, .mov (.tmp 0)⟩ (
 .step ⟨(some 37), none, .faddr 1 (.tmp 3)⟩ (
 .step ⟨(some 38), none, .load false 1 (.tmp 37)⟩ (
 .step ⟨(some 39), none, .bin .sub (.tmp 38) (.lit (.int .i64 1))⟩ (
 .step ⟨(some 40), none, .nilck (.tmp 36)⟩ (
 .step ⟨(some 41), none, .faddr 11 (.tmp 40)⟩ (
 .step ⟨(some 42), none, .iaddrA 12 1 (.tmp 41) (.tmp 39)⟩ (
 .step ⟨(some 43), none, .load false 1 (.tmp 42)⟩ (
 .ev ⟨(some 35), none, .call (.fn 91) [(.tmp 28), (.tmp 34)]⟩ [⟨(some 43), none, .load false 1 (.tmp 42)⟩, ⟨(some 42), none, .iaddrA 12 1 (.tmp 41) (.tmp 39)⟩, ⟨(some 41), none, .faddr 11 (.tmp 40)⟩, ⟨(some 40), none, .nilck (.tmp 36)⟩, ⟨(some 38), none, .load false 1 (.tmp 37)⟩, ⟨(some 37), none, .faddr 1 (.tmp 3)⟩, ⟨(some 32), none, .load false 1 (.tmp 31)⟩, ⟨(some 31), none, .faddr 1 (.tmp 3)⟩, ⟨(some 30), none, .load false 1 (.tmp 29)⟩, ⟨(some 29), none, .faddr 0 (.tmp 3)⟩, ⟨(some 27), none, .load true 2 (.tmp 3)⟩, ⟨(some 26), none, .load false 1 (.tmp 25)⟩, ⟨(some 25), none, .faddr 23 (.tmp 24)⟩, ⟨(some 24), none, .nilck (.tmp 23)⟩] (
 .step ⟨(some 44), none, .bin .add (.tmp 35) (.tmp 43)⟩ (
 .ev ⟨none, none, .mput (some [(some .i64), (some .i64)], none) (.tmp 26) (.tmp 27) (.tmp 44)⟩ [] (
 .done)
 (.stop)))
 (.stop)))))))))))))))))))))))
 (.seq (.draw (.step ⟨(some 45), none, .mov (.tmp 0)⟩ (
 .step ⟨(some 46), none, .nilck (.tmp 45)⟩ (
 .step ⟨(some 47), none, .faddr 23 (.tmp 46)⟩ (
 .step ⟨(some 48), none, .load false 1 (.tmp 47)⟩ (
 .step ⟨(some 49), none, .load true 2 (.tmp 3)⟩ (
 .step ⟨(some 50), none, .look (some [(some .i64), (some .i64)], none) (.int .i64 0) false (.tmp 48) (.tmp 49)⟩ (
 .step ⟨(some 4), none, .mov (.tmp 50)⟩ (
 .done)))))))))
 (.ret)))))
theorem k91 : FnC Try.prog 91 51 [] [] [.tmp 4] c91 2 := ⟨Try.f91, _, Try.func91, rfl, by decide, rfl, by decide, by kernel_rfl, by kernel_rfl⟩
/-- dipworks/rail.isMany -/
def c94 : AC :=
 .seq (.reg [⟨(some 2), none, .mov (.lit (.bool false))⟩])
 (.seq (.reg [⟨(some 3), none, .mov (.tmp 0)⟩,
 ⟨(some 4), none, .call (.fn 66) [(.tmp 3), (.lit (.int .i64 0)), (.lit (.int .i64 60))]⟩,
 ⟨(some 2), none, .mov (.tmp 4)⟩])
 (.ret))
theorem k94 : FnC Try.prog 94 5 [] [] [.tmp 2] c94 1 := ⟨Try.f94, _, Try.func94, rfl, by decide, rfl, by decide, by kernel_rfl, by kernel_rfl⟩
/-- (*dipworks/rail.yard).ends -/
def c96 : AC :=
 .seq (.reg [⟨(some 2), none, .box (.tmp 0)⟩,
 ⟨(some 3), none, .box (.tmp 1)⟩,
 ⟨(some 4), none, .mov (.lit .nilFunc)⟩])
 (.seq (.reg [⟨(some 5), none, .mkfn (.func 111) [] [(.tmp 3), (.tmp 2)]⟩,
 ⟨(some 4), none, .mov (.tmp 5)⟩])
 (.ret))
theorem k96 : FnC Try.prog 96 6 [] [] [.tmp 4] c96 2 := ⟨Try.f96, _, Try.func96, rfl, by decide, rfl, by decide, by kernel_rfl, by kernel_rfl⟩
/-- dipworks/rail.When$2 -/
def c97 : AC :=
 .seq (.reg [⟨(some 4), none, .mov (.lit (.bool false))⟩])
 (.seq (.draw (.step ⟨(some 5), none, .load true 10 (.tmp 1)⟩ (
 .step ⟨(some 6), none, .mov (.tmp 0)⟩ (
 .step ⟨(some 10), none, .load false 1 (.tmp 2)⟩ (
 .ev ⟨(some 7), none, .call (.fn 50) [(.tmp 5), (.tmp 6)]⟩ [⟨(some 10), none, .load false 1 (.tmp 2)⟩] (
 .step ⟨(some 8), none, .field 0 false 1 (.tmp 7)⟩ (
 .step ⟨(some 9), none, .mxmn true (.lit (.int .i64 0)) [(.tmp 8)]⟩ (
 .step ⟨(some 11), none, .bin .geq (.tmp 9) (.tmp 10)⟩ (
 .step ⟨(some 4), none, .mov (.tmp 11)⟩ (
 .done)))))
 (.stop))))))
 (.ret))
theorem k97 : FnC Try.prog 97 12 [] [] [.tmp 4] c97 3 := ⟨Try.f97, _, Try.func97, rfl, by decide, rfl, by decide, by kernel_rfl, by kernel_rfl⟩
/-- dipworks/rail.check$1 -/
def c100 : AC :=
 .seq (.reg [⟨(some 3), none, .mov (.lit (.bool false))⟩])
 (.seq (.reg [⟨(some 4), none, .mov (.tmp 0)⟩,
 ⟨(some 5), none, .faddr 4 (.tmp 1)⟩,
 ⟨(some 6), none, .load false 1 (.tmp 5)⟩,
 ⟨(some 7), none, .bin .shl (.lit (.int .i64 1)) (.tmp 6)⟩,
 ⟨(some 8), none, .bin .sub (.tmp 7) (.lit (.int .i64 1))⟩,
 ⟨(some 9), none, .call (.fn 66) [(.tmp 4), (.lit (.int .i64 0)), (.tmp 8)]⟩,
 ⟨(some 3), none, .mov (.tmp 9)⟩])
 (.ret))
theorem k100 : FnC Try.prog 100 10 [] [] [.tmp 3] c100 2 := ⟨Try.f100, _, Try.func100, rfl, by decide, rfl, by decide, by kernel_rfl, by kernel_rfl⟩
/-- dipworks/rail.sum -/
def c101 : AC :=
 .seq (.reg [⟨(some 2), none, .mov (.lit (.int .i64 0))⟩])
 (.seq (.seq (.reg [⟨(some 5), none, .mov (.tmp 0)⟩,
 ⟨(some 6), none, .len (.tmp 5)⟩,
 ⟨(some 7), none, .mov (.lit (.int .i64 0))⟩])
 (.block 0 (.loop (.seq (.reg [⟨(some 8), none, .bin .lss (.tmp 7) (.tmp 6)⟩])
 (.seq (.cond (.tmp 8) (.skip)
 (.exit 0))
 (.seq (.block 1 (.seq (.reg [⟨(some 9), none, .iaddr 1 (.tmp 5) (.tmp 7)⟩,
 ⟨(some 10), none, .load false 1 (.tmp 9)⟩,
 ⟨(some 4), none, .mov (.tmp 10)⟩])
 (.reg [⟨(some 11), none, .mov (.tmp 2)⟩,
 ⟨(some 12), none, .mov (.tmp 4)⟩,
 ⟨(some 13), none, .bin .add (.tmp 11) (.tmp 12)⟩,
 ⟨(some 2), none, .mov (.tmp 13)⟩])))
 (.reg [⟨(some 14), none, .bin .add (.tmp 7) (.lit (.int .i64 1))⟩,
 ⟨(some 7), none, .mov (.tmp 14)⟩])))))))
 (.seq (.reg [⟨(some 15), none, .mov (.tmp 2)⟩,
 ⟨(some 2), none, .mov (.tmp 15)⟩])
 (.ret)))
theorem k101 : FnC Try.prog 101 16 [] [] [.tmp 2] c101 1 := ⟨Try.f101, _, Try.func101, rfl, by decide, rfl, by decide, by kernel_rfl, by kernel_rfl⟩
/-- (dipworks/rail.hours).has -/
def c105 : AC :=
 .seq (.reg [⟨(some 4), none, .mov (.lit (.bool false))⟩])
 (.seq (.reg [⟨(some 5), none, .mov (.tmp 0)⟩,
 ⟨(some 6), none, .mov (.tmp 1)⟩,
 ⟨(some 7), none, .bin .shr (.tmp 5) (.tmp 6)⟩,
 ⟨(some 8), none, .bin .and (.tmp 7) (.lit (.int .u64 1))⟩,
 ⟨(some 9), none, .bin .eql (.tmp 8) (.lit (.int .u64 1))⟩,
 ⟨(some 4), none, .mov (.tmp 9)⟩])
 (.ret))
theorem k105 : FnC Try.prog 105 10 [] [] [.tmp 4] c105 2 := ⟨Try.f105, _, Try.func105, rfl, by decide, rfl, by decide, by kernel_rfl, by kernel_rfl⟩
/-- (*dipworks/rail.yard).from$1 -/
def c106 : AC :=
 .seq (.reg [⟨(some 4), none, .mov (.lit (.bool false))⟩])
 (.seq (.draw (.step ⟨(some 5), none, .load false 1 (.tmp 1)⟩ (
 .step ⟨(some 6), none, .faddr 1 (.tmp 2)⟩ (
 .step ⟨(some 7), none, .load false 1 (.tmp 6)⟩ (
 .step ⟨(some 8), none, .mov (.tmp 0)⟩ (
 .step ⟨(some 9), none, .build [(.int .i64 0), (.int .i64 0)] [(0, 1, (.tmp 7)), (1, 1, (.tmp 8))]⟩ (
 .step ⟨(some 11), none, .load false 1 (.tmp 1)⟩ (
 .step ⟨(some 12), none, .nilck (.tmp 11)⟩ (
 .step ⟨(some 13), none, .faddr 10 (.tmp 12)⟩ (
 .step ⟨(some 14), none, .load false 1 (.tmp 13)⟩ (
 .step ⟨(some 15), none, .faddr 2 (.tmp 2)⟩ (
 .step ⟨(some 16), none, .load true 2 (.tmp 15)⟩ (
 .ev ⟨(some 10), none, .call (.fn 91) [(.tmp 5), (.tmp 9)]⟩ [⟨(some 16), none, .load true 2 (.tmp 15)⟩, ⟨(some 15), none, .faddr 2 (.tmp 2)⟩, ⟨(some 14), none, .load false 1 (.tmp 13)⟩, ⟨(some 13), none, .faddr 10 (.tmp 12)⟩, ⟨(some 12), none, .nilck (.tmp 11)⟩, ⟨(some 11), none, .load false 1 (.tmp 1)⟩, ⟨(some 7), none, .load false 1 (.tmp 6)⟩, ⟨(some 6), none, .faddr 1 (.tmp 2)⟩] (
 .ev ⟨(some 17), none, .inv [(111, 130), (114, 132)] (.tmp 14) [(.tmp 16)]⟩ [⟨(some 15), none, .faddr 2 (.tmp 2)⟩, ⟨(some 13), none, .faddr 10 (.tmp 12)⟩, ⟨(some 12), none, .nilck (.tmp 11)⟩, ⟨(some 11), none, .load false 1 (.tmp 1)⟩, ⟨(some 7), none, .load false 1 (.tmp 6)⟩, ⟨(some 6), none, .faddr 1 (.tmp 2)⟩, ⟨(some 5), none, .load false 1 (.tmp 1)⟩] (
 .step ⟨(some 18), none, .bin .geq (.tmp 10) (.tmp 17)⟩ (
 .step ⟨(some 4), none, .mov (.tmp 18)⟩ (
 .done)))
 (.stop))
 (.stop))))))))))))))
 (.ret))
theorem k106 : FnC Try.prog 106 19 [] [] [.tmp 4] c106 3 := ⟨Try.f106, _, Try.func106, rfl, by decide, rfl, by decide, by kernel_rfl, by kernel_rfl⟩
/-- (*dipworks/rail.yard).left -/
def c108 : AC :=
 .seq (.reg [⟨(some 4), none, .mov (.lit (.int .i64 0))⟩])
 (.scope (.seq (.reg [⟨(some 5), none, .mov (.lit (.slice none 0 0))⟩])
 (.seq (.skip)
 (.seq (.seq (.reg [⟨(some 10), none, .mov (.tmp 0)⟩,
 ⟨(some 11), none, .nilck (.tmp 10)⟩,
 ⟨(some 12), none, .faddr 0 (.tmp 11)⟩,
 ⟨(some 13), none, .faddr 8 (.tmp 12)⟩,
 ⟨(some 14), none, .load false 1 (.tmp 13)⟩,
 ⟨(some 15), none, .len (.tmp 14)⟩,
 ⟨(some 16), none, .mov (.lit (.int .i64 0))⟩])
 (.block 0 (.loop (.seq (.reg [⟨(some 17), none, .bin .lss (.tmp 16) (.tmp 15)⟩])
 (.seq (.cond (.tmp 17) (.skip)
 (.exit 0))
 (.seq (.block 1 (.seq (.reg [⟨(some 18), none, .iaddr 4 (.tmp 14) (.tmp 16)⟩,
 ⟨(some 19), none, .load true 4 (.tmp 18)⟩,
 ⟨(some 7), none, .alloc [(.int .i64 0), (.int .i64 0), (.int .i64 0), (.int .i64 0)]⟩,
 ⟨none, none, .store 4 (.tmp 7) (.tmp 19)⟩])
 (.seq (.seq (.reg [⟨(some 21), none, .mov (.tmp 0)⟩,
 ⟨(some 22), none, .load true 4 (.tmp 7)⟩,
 ⟨(some 23), none, .call (.fn 76) [(.tmp 21), (.tmp 22)]⟩,
 ⟨(some 20), none, .mov (.tmp 23)⟩,
 ⟨(some 24), none, .ext (.tmp 20) 0⟩,
 ⟨(some 25), none, .ext (.tmp 20) 1⟩,
 ⟨(some 8), none, .mov (.tmp 24)⟩,
 ⟨(some 9), none, .mov (.tmp 25)⟩])
 (.seq (.reg [⟨(some 26), none, .mov (.tmp 9)⟩,
 ⟨(some 27), none, .mov (.tmp 26)⟩,
 ⟨(some 28), (some (27, true)), .mov (.tmp 8)⟩,
 ⟨(some 29), (some (27, true)), .mov (.tmp 1)⟩,
 ⟨(some 30), (some (27, true)), .bin .leq (.tmp 28) (.tmp 29)⟩,
 ⟨(some 31), none, .pick (.tmp 27) (.tmp 30) (.lit (.bool false))⟩])
 (.cond (.tmp 31) (.exit 1)
 (.skip))))
 (.reg [⟨(some 32), none, .mov (.tmp 5)⟩,
 ⟨(some 33), none, .faddr 0 (.tmp 7)⟩,
 ⟨(some 34), none, .load false 1 (.tmp 33)⟩,
 ⟨(some 35), none, .bslice 1 (.int .i64 0) 1 [(0, (.tmp 34))]⟩,
 ⟨(some 36), none, .app 1 8 (.tmp 32) (.tmp 35)⟩,
 ⟨(some 5), none, .mov (.tmp 36)⟩]))))
 (.reg [⟨(some 37), none, .bin .add (.tmp 16) (.lit (.int .i64 1))⟩,
 ⟨(some 16), none, .mov (.tmp 37)⟩])))))))
 (.seq (.reg [⟨(some 38), none, .mov (.tmp 5)⟩,
 ⟨(some 39), none, .call (.fn 101) [(.tmp 38)]⟩,
 ⟨(some 4), none, .mov (.tmp 39)⟩])
 (.ret))))))
theorem k108 : FnC Try.prog 108 40 [] [] [.tmp 4] c108 2 := ⟨Try.f108, _, Try.func108, rfl, by decide, rfl, by decide, by kernel_rfl, by kernel_rfl⟩
/-- slices.Values[[]int,int]$1 -/
def c110 : AC :=
 .seq (.reg [⟨(some 5), none, .load false 1 (.tmp 1)⟩,
 ⟨(some 6), none, .len (.tmp 5)⟩,
 ⟨(some 7), none, .mov (.lit (.int .i64 0))⟩])
 (.block 0 (.loop (.seq (.reg [⟨(some 8), none, .bin .lss (.tmp 7) (.tmp 6)⟩])
 (.seq (.cond (.tmp 8) (.skip)
 (.exit 0))
 (.seq (.block 1 (.seq (.reg [⟨(some 9), none, .iaddr 1 (.tmp 5) (.tmp 7)⟩,
 ⟨(some 10), none, .load false 1 (.tmp 9)⟩,
 ⟨(some 4), none, .mov (.tmp 10)⟩])
 (.seq (.reg [⟨(some 11), none, .mov (.tmp 0)⟩,
 ⟨(some 12), none, .mov (.tmp 4)⟩,
 ⟨(some 13), none, .call (.tmp 11) [(.tmp 12)]⟩,
 ⟨(some 14), none, .un .not (.tmp 13)⟩])
 (.cond (.tmp 14) (.ret)
 (.skip)))))
 (.reg [⟨(some 15), none, .bin .add (.tmp 7) (.lit (.int .i64 1))⟩,
 ⟨(some 7), none, .mov (.tmp 15)⟩]))))))
theorem k110 : FnC Try.prog 110 16 [] [] [] c110 2 := ⟨Try.f110, _, Try.func110, rfl, by decide, rfl, by decide, by kernel_rfl, by kernel_rfl⟩
/-- (*dipworks/rail.yard).ends$1 -/
def c111 : AC :=
 .seq (.reg [⟨(some 5), none, .load false 1 (.tmp 1)⟩,
 ⟨(some 4), none, .mov (.tmp 5)⟩])
 (.block 0 (.loop (.seq (.seq (.reg [⟨(some 6), none, .mov (.tmp 4)⟩,
 ⟨(some 7), none, .load false 1 (.tmp 2)⟩,
 ⟨(some 8), none, .nilck (.tmp 7)⟩,
 ⟨(some 9), none, .faddr 0 (.tmp 8)⟩,
 ⟨(some 10), none, .faddr 4 (.tmp 9)⟩,
 ⟨(some 11), none, .load false 1 (.tmp 10)⟩,
 ⟨(some 12), none, .bin .leq (.tmp 6) (.tmp 11)⟩])
 (.cond (.tmp 12) (.skip)
 (.exit 0)))
 (.seq (.block 1 (.seq (.reg [⟨(some 15), none, .mov (.tmp 0)⟩,
 ⟨(some 16), none, .mov (.tmp 4)⟩,
 ⟨(some 17), none, .call (.tmp 15) [(.tmp 16)]⟩,
 ⟨(some 18), none, .un .not (.tmp 17)⟩])
 (.cond (.tmp 18) (.ret)
 (.skip))))
 (.reg [⟨(some 13), none, .mov (.tmp 4)⟩,
 ⟨(some 14), none, .bin .add (.tmp 13) (.lit (.int .i64 1))⟩,
 ⟨(some 4), none, .mov (.tmp 14)⟩])))))
theorem k111 : FnC Try.prog 111 19 [] [] [] c111 3 := ⟨Try.f111, _, Try.func111, rfl, by decide, rfl, by decide, by kernel_rfl, by kernel_rfl⟩
/-- (dipworks/rail.fine).rains -/
def c129 : AC :=
 .seq (.reg [⟨(some 2), none, .box0 111 (.tmp 0)⟩,
 ⟨(some 3), none, .box (.tmp 1)⟩,
 ⟨(some 4), none, .mov (.lit (.int .u64 0))⟩])
 (.seq (.reg [⟨(some 5), none, .faddr 6 (.tmp 3)⟩,
 ⟨(some 6), none, .load false 1 (.tmp 5)⟩,
 ⟨(some 7), none, .conv .u64 (.tmp 6)⟩,
 ⟨(some 4), none, .mov (.tmp 7)⟩])
 (.ret))
theorem k129 : FnC Try.prog 129 8 [] [] [.tmp 4] c129 2 := ⟨Try.f129, _, Try.func129, rfl, by decide, rfl, by decide, by kernel_rfl, by kernel_rfl⟩
/-- (dipworks/rail.fine).wet -/
def c130 : AC :=
 .seq (.reg [⟨(some 2), none, .box0 111 (.tmp 0)⟩,
 ⟨(some 3), none, .box (.tmp 1)⟩,
 ⟨(some 4), none, .mov (.lit (.int .i64 0))⟩])
 (.seq (.reg [⟨(some 5), none, .faddr 0 (.tmp 3)⟩,
 ⟨(some 6), none, .load false 1 (.tmp 5)⟩,
 ⟨(some 4), none, .mov (.tmp 6)⟩])
 (.ret))
theorem k130 : FnC Try.prog 130 7 [] [] [.tmp 4] c130 2 := ⟨Try.f130, _, Try.func130, rfl, by decide, rfl, by decide, by kernel_rfl, by kernel_rfl⟩
/-- (dipworks/rail.foul).rains -/
def c131 : AC :=
 .seq (.reg [⟨(some 2), none, .box0 114 (.tmp 0)⟩,
 ⟨(some 3), none, .box (.tmp 1)⟩,
 ⟨(some 4), none, .mov (.lit (.int .u64 0))⟩])
 (.seq (.reg [⟨(some 5), none, .mov (.fn 133)⟩])
 (.seq (.draw (.step ⟨(some 6), none, .mov (.tmp 5)⟩ (
 .step ⟨(some 7), none, .faddr0 114 (.tmp 2)⟩ (
 .step ⟨(some 8), none, .load0 (.tmp 7)⟩ (
 .step ⟨(some 9), none, .load true 10 (.tmp 3)⟩ (
 .step ⟨(some 11), none, .faddr 7 (.tmp 3)⟩ (
 .step ⟨(some 12), none, .load false 1 (.tmp 11)⟩ (
 .step ⟨(some 13), none, .conv .u64 (.tmp 12)⟩ (
 .ev ⟨(some 10), none, .call (.fn 129) [(.tmp 8), (.tmp 9)]⟩ [⟨(some 12), none, .load false 1 (.tmp 11)⟩, ⟨(some 11), none, .faddr 7 (.tmp 3)⟩, ⟨(some 7), none, .faddr0 114 (.tmp 2)⟩] (
 .ev ⟨(some 14), none, .call (.tmp 6) [(.tmp 10), (.tmp 13)]⟩ [⟨(some 12), none, .load false 1 (.tmp 11)⟩, ⟨(some 11), none, .faddr 7 (.tmp 3)⟩, ⟨(some 9), none, .load true 10 (.tmp 3)⟩, ⟨(some 8), none, .load0 (.tmp 7)⟩, ⟨(some 7), none, .faddr0 114 (.tmp 2)⟩] (
 .step ⟨(some 4), none, .mov (.tmp 14)⟩ (
 .done))
 (.stop))
 (.stop))))))))))
 (.ret)))
theorem k131 : FnC Try.prog 131 15 [] [] [.tmp 4] c131 2 := ⟨Try.f131, _, Try.func131, rfl, by decide, rfl, by decide, by kernel_rfl, by kernel_rfl⟩
/-- (dipworks/rail.foul).wet -/
def c132 : AC :=
 .seq (.reg [⟨(some 2), none, .box0 114 (.tmp 0)⟩,
 ⟨(some 3), none, .box (.tmp 1)⟩,
 ⟨(some 4), none, .mov (.lit (.int .i64 0))⟩])
 (.seq (.reg [⟨(some 5), none, .faddr 1 (.tmp 3)⟩,
 ⟨(some 6), none, .load false 1 (.tmp 5)⟩,
 ⟨(some 4), none, .mov (.tmp 6)⟩])
 (.ret))
theorem k132 : FnC Try.prog 132 7 [] [] [.tmp 4] c132 2 := ⟨Try.f132, _, Try.func132, rfl, by decide, rfl, by decide, by kernel_rfl, by kernel_rfl⟩
/-- (dipworks/rail.hours).and -/
def c133 : AC :=
 .seq (.reg [⟨(some 4), none, .mov (.lit (.int .u64 0))⟩])
 (.seq (.reg [⟨(some 5), none, .mov (.tmp 0)⟩,
 ⟨(some 6), none, .mov (.tmp 1)⟩,
 ⟨(some 7), none, .bin .or (.tmp 5) (.tmp 6)⟩,
 ⟨(some 4), none, .mov (.tmp 7)⟩])
 (.ret))
theorem k133 : FnC Try.prog 133 8 [] [] [.tmp 4] c133 2 := ⟨Try.f133, _, Try.func133, rfl, by decide, rfl, by decide, by kernel_rfl, by kernel_rfl⟩
end Go.Proofs.Ytcpkkjbkbdmopaa

/- The small functions of rail. -/
namespace Go.Proofs.Ytcpkkjbkbdmopaa
open Go Go.Ab

abbrev vu (n : Int) : T := .lit (.int .u64 n)
theorem ubits_and {a b : Nat} (ha : a < 18446744073709551616) (hb : b < 18446744073709551616) : bits .and .u64 a b = ((a &&& b : Nat) : Int) := by
  have h1 : (BitVec.ofInt IntKind.u64.bits (a : Int) &&& BitVec.ofInt IntKind.u64.bits (b : Int)).toNat = a &&& b := by
    rw [BitVec.toNat_and, BitVec.ofInt_natCast, BitVec.ofInt_natCast, BitVec.toNat_ofNat, BitVec.toNat_ofNat]
    simp only [IntKind.bits]
    rw [Nat.mod_eq_of_lt (by omega), Nat.mod_eq_of_lt (by omega)]
  unfold bits
  simp only [h1]
  exact u64_nat (Nat.lt_of_le_of_lt Nat.and_le_left ha)
theorem ubits_or {a b : Nat} (ha : a < 18446744073709551616) (hb : b < 18446744073709551616) : bits .or .u64 a b = ((a ||| b : Nat) : Int) := by
  have h1 : (BitVec.ofInt IntKind.u64.bits (a : Int) ||| BitVec.ofInt IntKind.u64.bits (b : Int)).toNat = a ||| b := by
    rw [BitVec.toNat_or, BitVec.ofInt_natCast, BitVec.ofInt_natCast, BitVec.toNat_ofNat, BitVec.toNat_ofNat]
    simp only [IntKind.bits]
    rw [Nat.mod_eq_of_lt (by omega), Nat.mod_eq_of_lt (by omega)]
  unfold bits
  simp only [h1]
  exact u64_nat (Nat.or_lt_two_pow (n := 64) (by omega) (by omega))
theorem ubit_eq {a i : Nat} (ha : a < 9223372036854775808) : (bits .and .u64 ((a : Int).fdiv (2 ^ (min i 64))) 1 == 1) = a.testBit i := by
  rw [shr_nat ha, show (1 : Int) = ((1 : Nat) : Int) from rfl, ubits_and (Nat.lt_of_le_of_lt (by rw [Nat.shiftRight_eq_div_pow]; exact Nat.div_le_self _ _) (show a < 18446744073709551616 by omega)) (by omega), Nat.testBit_eq_decide_div_mod_eq, Nat.shiftRight_eq_div_pow]
  have : a / 2 ^ i &&& 1 = a / 2 ^ i % 2 := Nat.and_one_is_mod _
  rw [this]
  have h2 := Nat.mod_two_eq_zero_or_one (a / 2 ^ i)
  rcases h2 with h | h <;> rw [h] <;> rfl

/-- A refusal of rail's. -/
def stp1 (e : Int) : T := .iface 131 (.agg [vi e])
abbrev mustO (is : Bool) (e : Int) : Out := if is then .ret (.tup []) else .pan (stp1 e)

theorem qwithin_ok (n lo hi : Int) : ACall Try.prog 66 [.t (vi n), .t (vi lo), .t (vi hi)] [] (ret (vb (wI n lo hi))) := by
  refine ACall.walk k66 ?_
  unfold c66
  simp only [go_sem, Nat.reduceEqDiff, Nat.reduceAdd]
  refine BrL.mk (fun h => ?_) (fun h => ?_)
  all_goals simp only [h, go_sem, Nat.reduceEqDiff]
  all_goals refine finL_ret [] ⟨rfl, rfl, rfl, rfl, _, rfl, ret_mk ?_⟩
  all_goals simp at h
  all_goals simp [wI, h]
  omega

theorem must_ok (is : Bool) (e : Int) : ACall Try.prog 67 [.t (vb is), .t (vi e)] [] (res (mustO is e)) := by
  refine ACall.walk k67 ?_
  unfold c67
  cases is
  all_goals simp only [go_sem, Nat.reduceEqDiff, Bool.not_true, Bool.not_false]
  · exact finL_pan [] ⟨rfl, rfl, rfl, rfl, res_mk rfl⟩
  · exact finL_ret [] ⟨rfl, rfl, rfl, rfl, _, rfl, res_mk (by simp [E.gc])⟩

theorem has_ok (s h : Nat) (hs : s < 9223372036854775808) (hh : h ≤ 63) : ACall Try.prog 105 [.t (vu s), .t (vi h)] [] (ret (vb (s.testBit h))) := by
  refine ACall.walk k105 ?_
  unfold c105
  have e := ubit_eq (a := s) (i := h) hs
  have hn : ((h : Int) < 0) = False := by simp
  simp only [go_sem, Nat.reduceEqDiff, hn, IntKind.bits, e]
  exact finL_ret [] ⟨rfl, rfl, rfl, rfl, _, rfl, ret_mk rfl⟩

theorem and_ok (a b : Nat) (ha : a < 9223372036854775808) (hb : b < 9223372036854775808) : ACall Try.prog 133 [.t (vu a), .t (vu b)] [] (ret (vu ((a ||| b : Nat) : Int))) := by
  refine ACall.walk k133 ?_
  unfold c133
  have e := ubits_or (a := a) (b := b) (by omega) (by omega)
  simp only [go_sem, Nat.reduceEqDiff, e]
  exact finL_ret [] ⟨rfl, rfl, rfl, rfl, _, rfl, ret_mk rfl⟩

theorem frains_ok (r : Ra) (hr : 0 ≤ r.rain ∧ r.rain < 9223372036854775808) : ACall Try.prog 129 [.t (.agg []), .t (tRa r)] [] (ret (vu (r.R : Nat))) := by
  refine ACall.walk k129 ?_
  unfold c129 tRa tw3 ra7
  have e : IntKind.u64.wrap r.rain = ((r.R : Nat) : Int) := by
    unfold Ra.R
    have := u64_nat (n := r.rain.toNat) (by omega)
    rw [show ((r.rain.toNat : Nat) : Int) = r.rain by omega] at this
    rw [this]; omega
  simp only [go_sem, Nat.reduceEqDiff, Nat.reduceAdd, Nat.reduceLeDiff, e]
  exact finL_ret [] ⟨rfl, rfl, rfl, rfl, _, rfl, ret_mk rfl⟩

theorem rains_ok (r : Ra) (hr : 0 ≤ r.rain ∧ r.rain < 9223372036854775808) (hp : 0 ≤ r.perhaps ∧ r.perhaps < 9223372036854775808) : ACall Try.prog 131 [.t (.agg []), .t (tRa r)] [] (ret (vu ((r.R ||| r.Pe : Nat) : Int))) := by
  have h1 := frains_ok r hr
  have h2 := and_ok r.R r.Pe (by unfold Ra.R; omega) (by unfold Ra.Pe; omega)
  refine ACall.walk k131 ?_
  unfold c131
  unfold tRa tw3 ra7 at h1 ⊢
  have e : IntKind.u64.wrap r.perhaps = ((r.Pe : Nat) : Int) := by
    unfold Ra.Pe
    have := u64_nat (n := r.perhaps.toNat) (by omega)
    rw [show ((r.perhaps.toNat : Nat) : Int) = r.perhaps by omega] at this
    rw [this]; omega
  simp only [go_sem, Nat.reduceEqDiff, Nat.reduceAdd, Nat.reduceLeDiff]
  refine ACallL.quiet1 h1 rfl rfl rfl ?_
  simp only [go_sem, Nat.reduceEqDiff, Nat.reduceAdd, Nat.reduceLeDiff, e]
  refine ACallL.quiet1 h2 rfl rfl rfl ?_
  simp only [go_sem, Nat.reduceEqDiff, Nat.reduceAdd, Nat.reduceLeDiff]
  exact finL_ret [] ⟨rfl, rfl, rfl, rfl, _, rfl, ret_mk rfl⟩

theorem fwet_ok (lo hi : Int) : ACall Try.prog 130 [.t (.agg []), .t (.agg [vi lo, vi hi])] [] (ret (vi lo)) := by
  refine ACall.walk k130 ?_
  unfold c130
  simp only [go_sem, Nat.reduceEqDiff, Nat.reduceAdd, Nat.reduceLeDiff]
  exact finL_ret [] ⟨rfl, rfl, rfl, rfl, _, rfl, ret_mk rfl⟩
theorem gwet_ok (lo hi : Int) : ACall Try.prog 132 [.t (.agg []), .t (.agg [vi lo, vi hi])] [] (ret (vi hi)) := by
  refine ACall.walk k132 ?_
  unfold c132
  simp only [go_sem, Nat.reduceEqDiff, Nat.reduceAdd]
  exact finL_ret [] ⟨rfl, rfl, rfl, rfl, _, rfl, ret_mk rfl⟩

theorem isHour_ok (r : Ra) (n : Int) : ACall Try.prog 49 [.t (tRa r), .t (vi n)] [] (ret (vb (r.isH n))) := by
  refine ACall.walk k49 ?_
  unfold c49 tRa tw3 ra7
  simp only [go_sem, Nat.reduceEqDiff, Nat.reduceAdd, Nat.reduceLeDiff]
  refine ACallL.quiet1 (qwithin_ok n 0 r.hours) rfl rfl rfl ?_
  simp only [go_sem, Nat.reduceEqDiff]
  exact finL_ret [] ⟨rfl, rfl, rfl, rfl, _, rfl, ret_mk rfl⟩
theorem isMany_ok (n : Int) : ACall Try.prog 94 [.t (vi n)] [] (ret (vb (isMany n))) := by
  refine ACall.walk k94 ?_
  unfold c94
  simp only [go_sem, Nat.reduceEqDiff]
  refine ACallL.quiet1 (qwithin_ok n 0 60) rfl rfl rfl ?_
  simp only [go_sem, Nat.reduceEqDiff]
  exact finL_ret [] ⟨rfl, rfl, rfl, rfl, _, rfl, ret_mk rfl⟩

theorem qsum_ok (xs : List Int) (hl : xs.length ≤ 1000) (hr : ∀ x ∈ xs, 0 ≤ x ∧ x ≤ 1000000) : ACall Try.prog 101 [.t (.slice 1 (xs.map vi))] [] (ret (vi xs.sum)) := by
  refine ACall.walk k101 ?_
  unfold c101
  have hs : ∀ j, j ≤ xs.length → 0 ≤ (xs.take j).sum ∧ (xs.take j).sum ≤ 1000000 * (j : Int) := fun j => by
    induction j with
    | zero => intro _; simp
    | succ j ih =>
      intro hj
      have ih := ih (by omega)
      have hx := hr _ (List.getElem_mem (show j < xs.length by omega))
      rw [List.take_succ_eq_append_getElem (by omega), List.sum_append]
      simp only [List.sum_cons, List.sum_nil]
      omega
  simp only [go_sem, Nat.reduceEqDiff, List.length_map]
  refine awpL_for (i := 7) (L := 6) xs.length (fun j s => s = { env := [(7, .t (vi j)), (6, .t (vi xs.length)), (5, .t (.slice 1 (xs.map vi))), (2, .t (vi (xs.take j).sum))], σ := [] })
    ?_ ⟨_, Sub.gc [] [7, 6, 5, 2] rfl rfl, rfl⟩ ?_ ?_
  · rintro k s rfl; exact ⟨rfl, rfl⟩
  · rintro j s hj rfl
    have h1 := hs j (by omega)
    have h2 := hs (j + 1) (by omega)
    have hw : IntKind.i64.wrap ((j : Int) + 1) = ((j + 1 : Nat) : Int) := by rw [wrap_id (by omega) (by omega)]; omega
    have htk : xs.take (j + 1) = xs.take j ++ [xs[j]] := List.take_succ_eq_append_getElem hj
    have hx : xs[j]? = some xs[j] := List.getElem?_eq_getElem hj
    rw [htk, List.sum_append] at h2
    simp only [List.sum_cons, List.sum_nil, Int.add_zero] at h2
    have hw2 : IntKind.i64.wrap ((xs.take j).sum + xs[j]) = (xs.take (j + 1)).sum := by
      rw [wrap_id (by omega) (by omega), htk, List.sum_append]; simp
    generalize xs[j] = x at *
    simp only [go_sem, Nat.reduceEqDiff, List.getElem?_map, hx, hw, hw2]
    exact ⟨_, Sub.gc [] [7, 6, 5, 2] rfl rfl, rfl⟩
  · rintro s rfl
    rw [List.take_length]
    simp only [go_sem, Nat.reduceEqDiff]
    exact finL_ret [] ⟨rfl, rfl, rfl, rfl, _, rfl, ret_mk rfl⟩

/-- Is it a set of the hours? -/
theorem isSet_ok (r : Ra) (hH : 0 ≤ r.hours ∧ r.hours ≤ 12) (s : Int) : ACall Try.prog 100 [.t (vi s), .t (.ptr (tRa r) 0)] [] (ret (vb (isSetI r.hours s))) := by
  have h1 := qwithin_ok s 0 ((2 ^ r.hours.toNat : Nat) - 1)
  refine ACall.walk k100 ?_
  unfold c100 tRa tw3 ra7
  have hn : (r.hours < 0) = False := by simp; omega
  have hp : (2 : Nat) ^ r.hours.toNat ≤ 2 ^ 12 := Nat.pow_le_pow_right (by omega) (by omega)
  have e : IntKind.i64.wrap (1 * 2 ^ (min r.hours.toNat 64)) = ((2 ^ r.hours.toNat : Nat) : Int) := shl_one (by omega)
  have e2 : IntKind.i64.wrap (((2 ^ r.hours.toNat : Nat) : Int) - 1) = ((2 ^ r.hours.toNat : Nat) : Int) - 1 := wrap_id (by have := Nat.two_pow_pos r.hours.toNat; omega) (by omega)
  have e3 : isSetI r.hours s = wI s 0 (((2 ^ r.hours.toNat : Nat) : Int) - 1) := rfl
  rw [e3]
  generalize ((2 ^ r.hours.toNat : Nat) : Int) = P at *
  simp only [go_sem, Nat.reduceEqDiff, Nat.reduceAdd, hn, IntKind.bits, e, e2]
  refine ACallL.quiet1 h1 rfl rfl rfl ?_
  simp only [go_sem, Nat.reduceEqDiff]
  exact finL_ret [] ⟨rfl, rfl, rfl, rfl, _, rfl, ret_mk rfl⟩

/-! ### What panics becomes an error -/
theorem stopped_pan (e : Int) (x : T) : ACall Try.prog 47 [.t (stp1 e), .ptr 0 0] [.cells [.t x]] (fun o σ' => o = .ret (.tup []) ∧ σ' = [.cells [.t (vi e)]]) := by
  refine ACall.walk k47 ?_
  unfold c47 stp1
  simp only [go_sem, Nat.reduceEqDiff, Bool.not_true, undef]
  exact finL_ret [0] ⟨rfl, rfl, rfl, rfl, _, rfl, by simp [E.gc], rfl⟩
theorem stopped_none (x : T) : ACall Try.prog 47 [.t (.lit .nilIface), .ptr 0 0] [.cells [.t x]] (fun o σ' => o = .ret (.tup []) ∧ σ' = [.cells [.t x]]) := by
  refine ACall.walk k47 ?_
  unfold c47
  simp only [go_sem, Nat.reduceEqDiff, Bool.not_false]
  exact finL_ret [0] ⟨rfl, rfl, rfl, rfl, _, rfl, by simp [E.gc], rfl⟩
end Go.Proofs.Ytcpkkjbkbdmopaa

/- A rail that is looked at in one weather; how far a towel has dried (a memo). -/
namespace Go.Proofs.Ytcpkkjbkbdmopaa
open Go Go.Ab

/-! ### The yard -/
/-- A weather: fine, or foul. -/
def wth (foul : Bool) : T := .iface (if foul then 114 else 111) (.agg [])
abbrev shY : Sh := (some [some .i64, some .i64], none)
def yA (r : Ra) (foul : Bool) (ds : List E) (m : Nat) : List E := (tw3 r.tw ++ ra7 r).map E.t ++ [E.t (wth foul)] ++ ds ++ [E.map m]
/-- By how much the first hours dry. -/
def dsT (r : Ra) (foul : Bool) (j : Nat) : List E := (List.range 12).map fun i => E.t (vi ((if i < j then r.f foul i else 0 : Nat) : Int))
def yC (r : Ra) (foul : Bool) (m : Nat) : List E := yA r foul (dsT r foul r.H) m
abbrev yE (r : Ra) (foul : Bool) (m : Nat) : E := .vp (yC r foul m) 0
theorem dsT_len (r : Ra) (foul : Bool) (j : Nat) : (dsT r foul j).length = 12 := by simp [dsT]
theorem yA_len {r : Ra} {foul : Bool} {ds : List E} {m : Nat} (h : ds.length = 12) : (yA r foul ds m).length = 24 := by simp [yA, tw3, ra7, h]
theorem yC_len (r : Ra) (foul : Bool) (m : Nat) : (yC r foul m).length = 24 := yA_len (dsT_len ..)
theorem yA_set {r : Ra} {foul : Bool} {ds : List E} {m : Nat} (hd : ds.length = 12) {j : Nat} (hj : j < 12) (v : E) :
    List.take (11 + j) (yA r foul ds m) ++ [v] ++ List.drop (11 + j + 1) (yA r foul ds m) = yA r foul (ds.set j v) m := by
  have hl := yA_len (r := r) (foul := foul) (m := m) hd
  have h1 : List.take (11 + j) (yA r foul ds m) ++ [v] ++ List.drop (11 + j + 1) (yA r foul ds m) = (yA r foul ds m).set (11 + j) v := by
    rw [List.set_eq_take_append_cons_drop, if_pos (by omega), List.append_assoc]; rfl
  rw [h1]
  unfold yA
  rw [List.set_append_left _ _ (by simp [tw3, ra7, hd]; omega), List.set_append_right _ _ (by simp [tw3, ra7])]
  congr 2
  congr 1
  simp [tw3, ra7]
theorem dsT_set (r : Ra) (foul : Bool) (j : Nat) (hj : j < 12) : (dsT r foul j).set j (E.t (vi (r.f foul j : Nat))) = dsT r foul (j + 1) := by
  apply List.ext_getElem?
  intro i
  unfold dsT
  by_cases hi : i = j
  · subst hi
    rw [List.getElem?_set_self (by simpa using hj), List.getElem?_map, List.getElem?_range hj]
    simp
  · rw [List.getElem?_set_ne (Ne.symm hi), List.getElem?_map, List.getElem?_map]
    by_cases hi2 : i < 12
    · rw [List.getElem?_range hi2]
      simp only [Option.map_some]
      have : (i < j) = (i < j + 1) := by apply propext; omega
      simp only [this]
    · rw [List.getElem?_eq_none (by simp; omega)]; rfl
theorem dsT_skip (r : Ra) (foul : Bool) (j : Nat) (hf : r.f foul j = 0) : dsT r foul j = dsT r foul (j + 1) := by
  unfold dsT
  apply List.map_congr_left
  intro i _
  by_cases hi : i = j
  · subst hi; simp [hf]
  · have : (i < j) = (i < j + 1) := by apply propext; omega
    simp only [this]
theorem yC_23 (r : Ra) (foul : Bool) (m : Nat) : (yC r foul m)[23]? = some (.map m) := by
  unfold yC yA
  rw [List.getElem?_append_right (by simp [tw3, ra7, dsT_len])]
  simp [tw3, ra7, dsT_len]
theorem yC_4 (r : Ra) (foul : Bool) (m : Nat) : (yC r foul m)[4]? = some (.t (vi r.hours)) := rfl
theorem yC_8 (r : Ra) (foul : Bool) (m : Nat) : (yC r foul m)[8]? = some (.t (.slice 4 (r.lines.map tLn))) := rfl
theorem yC_10 (r : Ra) (foul : Bool) (m : Nat) : (yC r foul m)[10]? = some (.t (wth foul)) := rfl
theorem yC_at (r : Ra) (foul : Bool) (m : Nat) {b : Nat} (hb : b < r.H) (hH : r.H ≤ 12) : (yC r foul m)[11 + b]? = some (.t (vi (r.f foul b : Nat))) := by
  unfold yC yA
  rw [List.getElem?_append_left (by simp [tw3, ra7, dsT_len]; omega), List.getElem?_append_right (by simp [tw3, ra7])]
  simp only [tw3, ra7, List.length_append, List.length_map, List.length_cons, List.length_nil]
  rw [show 11 + b - (0 + 1 + 1 + 1 + (0 + 1 + 1 + 1 + 1 + 1 + 1 + 1) + (0 + 1)) = b by omega]
  unfold dsT
  rw [List.getElem?_map, List.getElem?_range (by omega)]
  simp [hb]
theorem ren_t (ρ : Nat → Nat) : ∀ l : List T, E.rens ρ (l.map E.t) = l.map E.t
  | [] => rfl
  | x :: l => by simp only [List.map_cons, E.rens, E.ren, ren_t ρ l]
theorem rens_app (ρ : Nat → Nat) : ∀ a b : List E, E.rens ρ (a ++ b) = E.rens ρ a ++ E.rens ρ b
  | [], _ => rfl
  | x :: a, b => by simp only [List.cons_append, E.rens, rens_app ρ a b]
theorem ren_y (ρ : Nat → Nat) (r : Ra) (foul : Bool) (m : Nat) : E.rens ρ (yC r foul m) = yC r foul (ρ m) := by
  unfold yC yA
  have h : dsT r foul r.H = ((List.range 12).map fun i => vi ((if i < r.H then r.f foul i else 0 : Nat) : Int)).map E.t := by unfold dsT; rw [List.map_map]; rfl
  rw [rens_app, rens_app, rens_app, ren_t, h, ren_t]
  rfl
theorem gc_yC {kp : List Nat} {σ : List AO} {n : Nat} (r : Ra) (foul : Bool) {m m' : Nat} (h : pos? kp m = some m') : (yC r foul m).map (E.gc kp σ (n + 1)) = yC r foul m' := by
  have hd : dsT r foul r.H = ((List.range 12).map fun i => vi ((if i < r.H then r.f foul i else 0 : Nat) : Int)).map E.t := by unfold dsT; rw [List.map_map]; rfl
  unfold yC yA
  rw [List.map_append, List.map_append, List.map_append, gc_row, hd, gc_row]
  simp only [List.map_cons, List.map_nil, E.gc, h]
theorem allT_yC (r : Ra) (foul : Bool) (m : Nat) : allT (yC r foul m) = none := by
  have key : ∀ (l : List T) (e : E), (∀ x, e ≠ .t x) → allT (l.map E.t ++ [e]) = none := by
    intro l e he
    induction l with
    | nil =>
      cases e with
      | t x => exact absurd rfl (he x)
      | _ => rfl
    | cons x l ih => simp only [List.map_cons, List.cons_append, allT, ih, Option.map_none]
  have hd : dsT r foul r.H = ((List.range 12).map fun i => vi ((if i < r.H then r.f foul i else 0 : Nat) : Int)).map E.t := by unfold dsT; rw [List.map_map]; rfl
  unfold yC yA
  rw [hd, show [E.t (wth foul)] = [wth foul].map E.t from rfl, ← List.map_append, ← List.map_append]
  exact key _ _ (by intro x h; cases h)
theorem gc_yE {kp : List Nat} {σ : List AO} {n : Nat} (r : Ra) (foul : Bool) {m m' : Nat} (h : pos? kp m = some m') : E.gc kp σ (n + 2) (yE r foul m) = yE r foul m' := by
  rw [E.gc]
  simp only [gc_yC r foul h, allT_yC]
theorem gc_pY {kp : List Nat} {σ : List AO} {n id : Nat} (r : Ra) (foul : Bool) {m m' : Nat} (hp : pos? kp id = none) (ho : σ[id]? = some (.cells (yC r foul m))) (h : pos? kp m = some m') : E.gc kp σ (n + 2) (.ptr id 0) = yE r foul m' := by
  rw [E.gc]
  simp only [hp, ho, gc_yC r foul h, allT_yC]

theorem Ra.OK.rains {r : Ra} (h : r.OK) : r.R < 4096 ∧ r.Pe < 4096 ∧ r.S < 4096 := by
  have hp : (2 : Nat) ^ r.hours.toNat ≤ 2 ^ 12 := Nat.pow_le_pow_right (by omega) (by have := h.hours; omega)
  have := h.rain; have := h.perhaps; have := h.sun
  unfold Ra.R Ra.Pe Ra.S
  omega
theorem Ra.OK.rns {r : Ra} (h : r.OK) (foul : Bool) : r.rains foul < 4096 := by
  obtain ⟨h1, h2, _⟩ := h.rains
  unfold Ra.rains
  split
  · exact Nat.or_lt_two_pow (n := 12) h1 h2
  · exact h1
theorem Ra.OK.H {r : Ra} (h : r.OK) : 1 ≤ r.H ∧ r.H ≤ 12 ∧ r.hours = r.H := by have := h.hours; unfold Ra.H; omega

set_option maxRecDepth 8000 in
set_option maxHeartbeats 4000000 in
theorem in_ok (r : Ra) (hr : r.OK) (foul : Bool) : ACall Try.prog 75 [.t (tRa r), .t (wth foul)] [] (fun o σ' => o = .ret (yE r foul 0) ∧ σ' = [.map shY [] [] 0]) := by
  refine ACall.walk k75 ?_
  obtain ⟨b1, b2, b3⟩ := hr.rains
  have hR := hr.rain
  have hP := hr.perhaps
  have hS := hr.sun
  have hrn := hr.rns foul
  have hpw : (2 : Nat) ^ r.hours.toNat ≤ 2 ^ 12 := Nat.pow_le_pow_right (by omega) (by have := hr.hours; omega)
  have h1 := frains_ok r (by omega)
  have h2 := rains_ok r (by omega) (by omega)
  have eS : IntKind.u64.wrap r.sun = ((r.S : Nat) : Int) := by
    unfold Ra.S
    have := u64_nat (n := r.sun.toNat) (by omega)
    rw [show ((r.sun.toNat : Nat) : Int) = r.sun by omega] at this
    rw [this]; omega
  unfold c75
  have hc : ∀ (K : Lz (Out → List AO → Prop)) (σ : List AO), K.get (.ret (.t (vu (r.rains foul : Nat)))) σ →
      (∀ f, mfind [(111, 129), (114, 131)] (if foul = true then 114 else 111) = some f → @ACallL Try.prog f [.t (.agg []), .t (tRa r)] σ K) := by
    intro K σ hk f hf
    cases foul
    · cases hf
      exact ACallL.quiet1 h1 rfl rfl rfl hk
    · cases hf
      exact ACallL.quiet1 h2 rfl rfl rfl hk
  refine awpL_chop 3 (c1 := ?a1) (c2 := ?a2) (fun st => lk st.env 2 = .ptr 0 0 ∧ lk st.env 5 = .ptr 2 0 ∧ lk st.env 6 = .t (.fn (.func 105) [vu (r.rains foul : Nat)] []) ∧ lk st.env 7 = .t (.fn (.func 105) [vu (r.S : Nat)] []) ∧
    st.σ = [.cells ((tw3 r.tw ++ ra7 r).map .t), .map shY [] [] 0, .cells (yA r foul (dsT r foul 0) 1)] ∧ st.df = [] ∧ st.k = 0) ?hc ?_ ?_
  case hc => simp only [chop]; rfl
  · unfold tRa tw3 ra7 at hc ⊢
    unfold wth
    obtain ⟨f, hf⟩ : ∃ f, mfind [(111, 129), (114, 131)] (if foul = true then 114 else 111) = some f := by cases foul <;> exact ⟨_, rfl⟩
    simp only [go_sem, Nat.reduceEqDiff, Nat.reduceAdd, Nat.reduceLeDiff, eS, hf]
    refine hc _ _ ?_ f hf
    simp only [go_sem, Nat.reduceEqDiff, Nat.reduceAdd, Nat.reduceLeDiff]
    first | rfl | (unfold yA dsT; rfl)
  rintro ⟨env, σ, df, k⟩ ⟨q2, q5, q6, q7, hσ, hdf, hk⟩
  simp only at q2 q5 q6 q7 hσ hdf hk
  subst hσ hdf hk
  obtain ⟨g1, g2, g3⟩ := hr.H
  have gc_A : ∀ {kp : List Nat} {σ : List AO} {j : Nat} {m m' : Nat} (_ : pos? kp m = some m'), (yA r foul (dsT r foul j) m).map (E.gc kp σ 12) = yA r foul (dsT r foul j) m' := by
    intro kp σ j m m' h
    have hd : dsT r foul j = ((List.range 12).map fun i => vi ((if i < j then r.f foul i else 0 : Nat) : Int)).map E.t := by unfold dsT; rw [List.map_map]; rfl
    unfold yA
    rw [List.map_append, List.map_append, List.map_append, gc_row, hd, gc_row]
    simp only [List.map_cons, List.map_nil, E.gc, h]
  refine awpL_chop 1 (c1 := ?b1) (c2 := ?b2) (fun st => lk st.env 5 = .ptr 1 0 ∧ st.σ = [.map shY [] [] 0, .cells (yA r foul (dsT r foul r.H) 0)] ∧ st.df = [] ∧ st.k = 0) ?hc2 ?_ ?_
  case hc2 => simp only [chop]; rfl
  · unfold tw3 ra7
    simp only [go_sem, Nat.reduceAdd, Nat.reduceLeDiff, q2, g3]
    refine awpL_for (i := 24) (L := 23) r.H (fun j st => st = { env := [(24, .t (vi j)), (23, .t (vi r.H)), (5, .ptr 1 0), (6, .t (.fn (.func 105) [vu (r.rains foul : Nat)] [])), (7, .t (.fn (.func 105) [vu (r.S : Nat)] []))], σ := [.map shY [] [] 0, .cells (yA r foul (dsT r foul j) 0)] }) ?_
      ⟨_, Sub.gc [1, 2] [24, 23, 5, 6, 7] rfl rfl, ?_⟩ ?_ ?_
    · rintro k st rfl; exact ⟨rfl, rfl⟩
    · refine St.gc_mk ?_ ?_ rfl rfl
      · simp only [List.map_cons, List.map_nil, lk, Nat.reduceEqDiff, reduceIte, q5, q6, q7]; rfl
      · show [AO.map _ _ _ _, AO.cells ((yA r foul (dsT r foul 0) 1).map (E.gc _ _ _))] = _
        rw [gc_A (m' := 0) rfl]
    · rintro j st hj rfl
      have hw : IntKind.i64.wrap ((j : Int) + 1) = ((j + 1 : Nat) : Int) := by rw [wrap_id (by omega) (by omega)]; omega
      have c1 := has_ok (r.rains foul) j (by omega) (by omega)
      have c2 := has_ok r.S j (by omega) (by omega)
      have hlen := yA_len (r := r) (foul := foul) (m := 0) (dsT_len r foul j)
      have hset := fun v => yA_set (r := r) (foul := foul) (m := 0) (dsT_len r foul j) (show j < 12 by omega) (.t (vi v))
      have hset2 := dsT_set r foul j (by omega)
      have hskip := dsT_skip r foul j
      have hfj : r.f foul j = if (r.rains foul).testBit j then 0 else if r.S.testBit j then 2 else 1 := rfl
      have gcB : ∀ σ : List AO, (yA r foul (dsT r foul (j + 1)) 0).map (E.gc [0, 1] σ 12) = yA r foul (dsT r foul (j + 1)) 0 := fun σ => gc_A rfl
      have hj12 : (j : Int) < 12 := by omega
      have hj24 : (11 + j + 1 ≤ 24) = True := by simp; omega
      simp only [go_sem, Nat.reduceEqDiff]
      refine ACallL.quiet1 c1 rfl rfl rfl ?_
      cases hb1 : (r.rains foul).testBit j
      · simp only [hb1, Bool.false_eq_true, if_false] at hfj
        simp only [go_sem, Nat.reduceEqDiff]
        refine ACallL.quiet1 c2 rfl rfl rfl ?_
        cases hb2 : r.S.testBit j
        · simp only [hb2, Bool.false_eq_true, if_false] at hfj
          have hset := hset 1
          rw [show (dsT r foul j).set j (.t (vi 1)) = dsT r foul (j + 1) by rw [← hset2, hfj]; rfl] at hset
          simp only [go_sem, Nat.reduceEqDiff, undef, hj12, Nat.mul_one, hlen, hj24, hset, hw]
          exact ⟨_, Sub.gc [0, 1] [24, 23, 5, 6, 7] rfl rfl, St.gc_mk rfl (by show [AO.map _ _ _ _, AO.cells ((yA r foul _ 0).map (E.gc _ _ _))] = _; rw [gcB]) rfl rfl⟩
        · simp only [hb2, if_true] at hfj
          have hset := hset 2
          rw [show (dsT r foul j).set j (.t (vi 2)) = dsT r foul (j + 1) by rw [← hset2, hfj]; rfl] at hset
          simp only [go_sem, Nat.reduceEqDiff, undef, hj12, Nat.mul_one, hlen, hj24, hset, hw]
          exact ⟨_, Sub.gc [0, 1] [24, 23, 5, 6, 7] rfl rfl, St.gc_mk rfl (by show [AO.map _ _ _ _, AO.cells ((yA r foul _ 0).map (E.gc _ _ _))] = _; rw [gcB]) rfl rfl⟩
      · simp only [hb1, if_true] at hfj
        rw [hskip hfj]
        simp only [go_sem, Nat.reduceEqDiff, hw]
        exact ⟨_, Sub.gc [0, 1] [24, 23, 5, 6, 7] rfl rfl, St.gc_mk rfl (by show [AO.map _ _ _ _, AO.cells ((yA r foul _ 0).map (E.gc _ _ _))] = _; rw [gcB]) rfl rfl⟩
    · rintro st rfl
      simp only [go_sem, Nat.reduceEqDiff]
  clear q2 q5 q6 q7
  rintro ⟨env, σ, df, k⟩ ⟨q5, hσ, hdf, hk⟩
  simp only at q5 hσ hdf hk
  subst hσ hdf hk
  simp only [go_sem, q5]
  refine finL_ret [0] ⟨rfl, rfl, rfl, rfl, _, rfl, ?_, rfl⟩
  show Out.ret (E.gc [0] _ 12 (.ptr 1 0)) = _
  rw [gc_pY r foul (n := 10) (m := 0) (m' := 0) rfl rfl rfl]
end Go.Proofs.Ytcpkkjbkbdmopaa

/- How far a towel has dried: the memo, the walk. Calls over a store that holds the memo. -/
namespace Go.Proofs.Ytcpkkjbkbdmopaa
open Go Go.Ab

theorem lend1 {f : Nat} {args0 : List E} {a : AO} {R0 : Out → AO → Prop} (h : ACall Try.prog f args0 [a] (fun o σ' => ∃ a', R0 o a' ∧ σ' = [a'])) {m : Nat} {σ : List AO} {b : AO} (hm : σ[m]? = some b) (hb : b = a.ren (lendR [m] σ.length))
    {args : List E} (hargs : args = E.rens (lendR [m] σ.length) args0) {R : Lz (Out → List AO → Prop)}
    (hk : ∀ o a', R0 o a' → R.get (o.ren (lendR [m] σ.length)) (σ.set m (a'.ren (lendR [m] σ.length)))) : @ACallL Try.prog f args σ R := by
  have hml := (List.getElem?_eq_some_iff.1 hm).1
  have e0 : lendR [m] σ.length 0 = m := rfl
  refine ACall.mono (ACall.lend [m] h (by simp) (by simpa using hml) rfl (fun j o ho => ?_) hargs) ?_
  · match j, ho with
    | 0, ho => simp at ho; subst ho; rw [e0, hm, hb]
  · rintro o σ1 ⟨o0, σ0, ⟨a', hR, rfl⟩, _, rfl, rfl⟩
    have := hk o0 a' hR
    have hs : lendB σ [m] ([a'].map (AO.ren (lendR [m] σ.length))) = σ.set m (a'.ren (lendR [m] σ.length)) := by
      apply List.ext_getElem?
      intro i
      by_cases hi : i = m
      · subst hi
        rw [lendB_kept (j := 0) (by simp) (by simp) (by simpa using hml) rfl, List.getElem?_set_self hml]
        rfl
      · by_cases hil : i < σ.length
        · rw [lendB_other hil (by simpa using hi), List.getElem?_set_ne (Ne.symm hi)]
        · rw [List.getElem?_eq_none (by rw [lendB_length (by simp)]; simp; omega), List.getElem?_eq_none (by rw [List.length_set]; omega)]
    rw [hs]
    exact this

/-- A call that hands back what is new, an object with it. -/
theorem new1 {f : Nat} {args : List T} {a : AO} {o' : Out} (h : ACall Try.prog f (args.map .t) [] (fun o σ' => o = o' ∧ σ' = [a])) {σ : List AO} {R : Lz (Out → List AO → Prop)}
    (hk : R.get (o'.ren (lendR [] σ.length)) (σ ++ [a.ren (lendR [] σ.length)])) : @ACallL Try.prog f (args.map .t) σ R := by
  refine ACall.mono (ACall.lend [] h (by simp) (by simp) rfl (fun j o ho => by simp at ho) (ren_t _ _).symm) ?_
  rintro o σ1 ⟨o0, σ0, ⟨rfl, rfl⟩, _, rfl, rfl⟩
  exact hk

/-! ### The memo -/
def MapY (f : Nat → Nat) (ks : List (Nat × List Int)) (xs : List T) : Prop := ks.length = xs.length ∧ ∀ (i : Nat) e x, ks[i]? = some e → xs[i]? = some x → e.2.length = 2 ∧ x = vi (driedN f (e.2.headD 0).toNat (e.2.tail.headD 0).toNat : Nat)
theorem MapY.nil (f : Nat → Nat) : MapY f [] [] := ⟨rfl, fun i e x h => by simp at h⟩
theorem MapY.find {f : Nat → Nat} {ks : List (Nat × List Int)} {xs : List T} (M : MapY f ks xs) {a b : Nat} {i : Nat} (hf : kfind shY ks [(a : Int), (b : Int)] = some i) : xs[i]? = some (vi (driedN f a b : Nat)) := by
  unfold kfind at hf
  obtain ⟨hi, hp, _⟩ := List.findIdx?_eq_some_iff_getElem.1 hf
  have hix : i < xs.length := by rw [← M.1]; exact hi
  obtain ⟨e1, e2⟩ := M.2 i ks[i] xs[i] (List.getElem?_eq_getElem hi) (List.getElem?_eq_getElem hix)
  rw [kEq_int rfl rfl e1] at hp
  have := of_decide_eq_true hp
  rw [List.getElem?_eq_getElem hix, e2, ← this]
  rfl
theorem MapY.new {f : Nat → Nat} {ks : List (Nat × List Int)} {xs : List T} (M : MapY f ks xs) {a b clk : Nat} : MapY f (ks ++ [(clk, [(a : Int), (b : Int)])]) (xs ++ [vi (driedN f a b : Nat)]) := by
  refine ⟨by simp [M.1], fun i e x h1 h2 => ?_⟩
  by_cases hi : i < ks.length
  · rw [List.getElem?_append_left hi] at h1
    rw [List.getElem?_append_left (by rw [← M.1]; exact hi)] at h2
    exact M.2 i e x h1 h2
  · have hlt := (List.getElem?_eq_some_iff.1 h1).1
    simp at hlt
    obtain rfl : i = ks.length := by omega
    rw [List.getElem?_append_right (by omega)] at h1
    rw [M.1, List.getElem?_append_right (by omega)] at h2
    simp at h1 h2
    subst h1 h2
    exact ⟨rfl, rfl⟩
theorem MapY.same {f : Nat → Nat} {ks : List (Nat × List Int)} {xs : List T} (M : MapY f ks xs) {a b : Nat} {i : Nat} (hf : kfind shY ks [(a : Int), (b : Int)] = some i) : xs.set i (vi (driedN f a b : Nat)) = xs := by
  have h := M.find hf
  obtain ⟨h1, h2⟩ := List.getElem?_eq_some_iff.1 h
  rw [← h2]
  exact List.set_getElem_self h1
theorem kfind_app {ks : List (Nat × List Int)} {a b : Int} {clk : Nat} (h : kfind shY ks [a, b] = none) : kfind shY (ks ++ [(clk, [a, b])]) [a, b] = some ks.length := by
  unfold kfind at h ⊢
  rw [List.findIdx?_append, h]
  simp [List.findIdx?_cons, shKinds, kEq, cellEq]
abbrev MemoY (f : Nat → Nat) (o : AO) : Prop := ∃ ks xs clk, MapY f ks xs ∧ o = .map shY ks xs clk
theorem toKeyY (a b : Int) : toKey (some [some .i64, some .i64], none) (.t (.agg [vi a, vi b])) = some [a, b] := by
  simp [toKey, cellKeys, cellKey]
abbrev yCall (f : Nat → Nat) (o' : Out) : Out → List AO → Prop := fun o σ' => ∃ a', (o = o' ∧ MemoY f a') ∧ σ' = [a']
theorem Ra.f_le (r : Ra) (foul : Bool) (h : Nat) : r.f foul h ≤ 2 := dr_le _ _ _

set_option maxRecDepth 8000 in
set_option maxHeartbeats 8000000 in
theorem dried_ok (r : Ra) (hr : r.OK) (foul : Bool) (a : Nat) (ha : a ≤ 12) : ∀ (b : Nat) (hb : b ≤ r.H) {ks : List (Nat × List Int)} {xs : List T} {clk : Nat} (M : MapY (r.f foul) ks xs),
    ACall Try.prog 91 [yE r foul 0, .t (.agg [vi a, vi b])] [.map shY ks xs clk] (yCall (r.f foul) (.ret (.t (vi (driedN (r.f foul) a b : Nat))))) := by
  obtain ⟨g1, g2, g3⟩ := hr.H
  intro b
  induction b with
  | zero =>
    intro hb ks xs clk M
    refine ACall.walk k91 ?_
    unfold c91
    have h0 : ((a : Int) ≥ 0) = True := by simp
    simp only [go_sem, Nat.reduceEqDiff, Nat.reduceAdd, Nat.reduceLeDiff, decide_true, h0]
    exact finL_ret [0] ⟨rfl, rfl, rfl, rfl, _, rfl, _, ⟨rfl, ks, xs, clk, M, rfl⟩, rfl⟩
  | succ b ih =>
    intro hb ks xs clk M
    refine ACall.walk k91 ?_
    have ih := fun {ks xs clk} M => ih (by omega) (ks := ks) (xs := xs) (clk := clk) M
    unfold c91
    have hlen := yC_len r foul 0
    have h23 := yC_23 r foul 0
    have hat := yC_at r foul 0 (b := b) (by omega) g2
    have hren := fun ρ => ren_y ρ r foul 0
    have hw : IntKind.i64.wrap (((b + 1 : Nat) : Int) - 1) = (b : Int) := by rw [wrap_id (by omega) (by omega)]; omega
    have hb12 : (b : Int) < 12 := by omega
    cases hab : decide ((a : Int) ≥ ((b + 1 : Nat) : Int))
    rotate_left
    · have hle : b + 1 ≤ a := by have := of_decide_eq_true hab; omega
      rw [driedN_none hle]
      simp only [go_sem, Nat.reduceEqDiff, Nat.reduceAdd, Nat.reduceLeDiff, hab]
      exact finL_ret [0] ⟨rfl, rfl, rfl, rfl, _, rfl, _, ⟨rfl, ks, xs, clk, M, rfl⟩, rfl⟩
    have hle : a ≤ b := by have := of_decide_eq_false hab; omega
    have hb1 := driedN_le (r.f_le foul) a b
    have hb2 := r.f_le foul b
    have hsum : IntKind.i64.wrap ((driedN (r.f foul) a b : Nat) + (r.f foul b : Nat) : Int) = ((driedN (r.f foul) a (b + 1) : Nat) : Int) := by
      rw [driedN_succ hle, wrap_id (by omega) (by omega)]; omega
    cases hk : kfind shY ks [(a : Int), ((b + 1 : Nat) : Int)] with
    | some i =>
      have hx := M.find hk
      generalize driedN (r.f foul) a (b + 1) = D at *
      simp only [go_sem, Nat.reduceEqDiff, Nat.reduceAdd, Nat.reduceLeDiff, hab, h23, toKeyY, mapOf?, hk, hx]
      exact finL_ret [0] ⟨rfl, rfl, rfl, rfl, _, rfl, _, ⟨rfl, ks, xs, clk, M, rfl⟩, rfl⟩
    | none =>
      have h23' : ∀ m, (yC r foul m)[23]? = some (.map m) := yC_23 r foul
      simp only [go_sem, Nat.reduceEqDiff, Nat.reduceAdd, Nat.reduceLeDiff, hab, h23, toKeyY, mapOf?, hk, hw, hb12, Nat.mul_one, hat, zeroT]
      refine lend1 (m := 0) (ih M) rfl rfl (by simp only [E.rens, E.ren, hren]; rfl) ?_
      rintro o a' ⟨rfl, ks2, xs2, clk2, M2, rfl⟩
      simp only [go_sem, Nat.reduceEqDiff, Nat.reduceAdd, Nat.reduceLeDiff, undef, Out.ren, E.ren, AO.ren, h23, toKeyY, hb12, Nat.mul_one, hat, hsum]
      cases hk2 : kfind shY ks2 [(a : Int), ((b + 1 : Nat) : Int)] with
      | some i =>
        have hx2 := M2.find hk2
        have hs2 := M2.same hk2
        generalize driedN (r.f foul) a (b + 1) = D at *
        simp only [go_sem, Nat.reduceEqDiff, Nat.reduceAdd, h23, toKeyY, mapOf?, hk2, hx2, hs2]
        exact finL_ret [0] ⟨rfl, rfl, rfl, rfl, _, rfl, _, ⟨rfl, ks2, xs2, clk2, M2, rfl⟩, rfl⟩
      | none =>
        have M3 := M2.new (a := a) (b := b + 1) (clk := clk2)
        have hk3 := kfind_app (clk := clk2) hk2
        have hx3 := M3.find hk3
        generalize driedN (r.f foul) a (b + 1) = D at *
        simp only [go_sem, Nat.reduceEqDiff, Nat.reduceAdd, h23, toKeyY, mapOf?, hk3, hx3]
        exact finL_ret [0] ⟨rfl, rfl, rfl, rfl, _, rfl, _, ⟨rfl, _, _, _, M3, rfl⟩, rfl⟩
end Go.Proofs.Ytcpkkjbkbdmopaa

/- The first that suits; the first hour at which a line is dry; how many towels are not dry. -/
namespace Go.Proofs.Ytcpkkjbkbdmopaa
open Go Go.Ab

/-! ### The first that suits -/
set_option maxRecDepth 8000 in
set_option maxHeartbeats 8000000 in
theorem first_ok {f k : Nat} {fs cs : List T} {G : E} {ecs : List E} (hG : G.wk = .fn (.func f) fs cs) (L : List Int) (hgen : AGen Try.prog f (fs.map .t ++ .yld :: cs.map .t) (L.map (.int .i64)) (stp true (L.map (Value.int .i64)))) (J : AO → Prop) (p : Int → Bool)
    (hs : ∀ x ∈ L, ∀ a, J a → ACall Try.prog k (E.t (vi x) :: ecs) [a] (fun o σ' => ∃ a', (o = .ret (.t (vb (p x))) ∧ J a') ∧ σ' = [a']))
    (hgc : ∀ kp σ, pos? kp 0 = some 0 → ecs.map (E.gc kp σ 11) = ecs) (hgcJ : ∀ kp σ a, pos? kp 0 = some 0 → J a → AO.gc kp σ 12 a = a) (hrJ : ∀ ρ a, J a → AO.ren ρ a = a) (hren : ∀ ρ : Nat → Nat, ρ 0 = 0 → E.rens ρ ecs = ecs) (hnt : allT ecs = none) (a : AO) (ha : J a) :
    ACall Try.prog 88 [G, .agg [.fn (.func k) [] ecs]] [a] (fun o σ' => ∃ a', (o = .ret (.tup [.t (vi ((L.find? p).getD 0)), .t (vb (L.find? p).isSome)]) ∧ J a') ∧ σ' = [a']) := by
  refine ACall.walk k88 ?_
  have hfn : ∀ kp σ, pos? kp 0 = some 0 → E.gc kp σ 12 (.fn (.func k) [] ecs) = .fn (.func k) [] ecs := by
    intro kp σ h
    rw [E.gc, List.map_nil, hgc kp σ h, E.mkFn]
    simp only [hnt, allT]
  unfold c88
  simp only [go_sem, Nat.reduceEqDiff, Nat.reduceAdd]
  refine awpL_gcpS (Sub.wk 7) ?_
  simp only [go_sem, Nat.reduceEqDiff, hG]
  refine awpL_rangeS (f := f) (fs := fs) (cs := cs) (L.map (.int .i64)) (fun i σ => ∃ a, J a ∧ σ = [a, .cells [.fn (.func k) [] ecs], .cells [.t (vi 0)], .cells [.t (vb false)]] ∧ ∀ x ∈ L.take i, p x = false)
    (fun e σ => e = .ret ∧ ∃ a x, J a ∧ L.find? p = some x ∧ σ = [a, .cells [.fn (.func k) [] ecs], .cells [.t (vi x)], .cells [.t (vb true)]]) [0, 1, 2, 3] [3, 4, 5]
    [(3, .ptr 1 0), (4, .ptr 2 0), (5, .ptr 3 0)] [] rfl rfl rfl rfl hgen rfl rfl ⟨a, ha, ?_, by simp⟩ ?_ ?_ ?_
  · show [AO.gc _ _ _ a, AO.cells [E.gc _ _ 12 _], AO.cells _, AO.cells _] = _
    rw [hgcJ _ _ a rfl ha, hfn _ _ rfl]
    rfl
  · rintro l j v σ hv ⟨a, ha, rfl, hno⟩
    rw [List.getElem?_map] at hv
    cases hx : L[j]? with
    | none => rw [hx] at hv; cases hv
    | some x =>
      rw [hx] at hv
      cases hv
      have hcall := hs x (List.mem_of_getElem? hx) a ha
      have htk : L.take (j + 1) = L.take j ++ [x] := by rw [List.take_add_one, hx]; rfl
      have hren' := hren (lendR [0] 4) rfl
      simp only [go_sem, Nat.reduceEqDiff, Nat.reduceAdd, T.ofV]
      refine lend1 (m := 0) hcall rfl (hrJ _ a ha).symm (by simp only [E.rens, E.ren]; exact (congrArg (E.t (vi x) :: ·) hren').symm) ?_
      rintro o a' ⟨rfl, ha'⟩
      have hrj := hrJ (lendR [0] 4) a' ha'
      cases hp : p x
      · simp only [go_sem, Nat.reduceEqDiff, Nat.reduceAdd, Out.ren, E.ren]
        refine ⟨[0, 1, 2, 3], rfl, rfl, a', ha', ?_, ?_⟩
        · show [AO.gc _ _ _ (AO.ren (lendR [0] 4) a'), AO.cells [E.gc _ _ 12 _], AO.cells _, AO.cells _] = _
          rw [hrj, hgcJ _ _ a' rfl ha', hfn _ _ rfl]
          rfl
        · intro y hy
          rw [htk] at hy
          rcases List.mem_append.1 hy with h | h
          · exact hno y h
          · simp at h; rw [h]; exact hp
      · simp only [go_sem, Nat.reduceEqDiff, Nat.reduceAdd, undef, Out.ren, E.ren]
        refine ⟨[0, 1, 2, 3], rfl, rfl, a', x, ha', ?_, ?_⟩
        · have hd : L = L.take j ++ x :: L.drop (j + 1) := by
            obtain ⟨hj, hxj⟩ := List.getElem?_eq_some_iff.1 hx
            rw [← hxj, ← List.drop_eq_getElem_cons hj, List.take_append_drop]
          rw [hd, List.find?_append, List.find?_eq_none.2 (fun y hy => by rw [hno y hy]; simp), List.find?_cons, hp]
          rfl
        · show [AO.gc _ _ _ (AO.ren (lendR [0] 4) a'), AO.cells [E.gc _ _ 12 _], AO.cells _, AO.cells _] = _
          rw [hrj, hgcJ _ _ a' rfl ha', hfn _ _ rfl]
          rfl
  · rintro σ ⟨a, ha, rfl, hno⟩
    rw [List.length_map, List.take_length] at hno
    have hf : L.find? p = none := List.find?_eq_none.2 fun y hy => by rw [hno y hy]; simp
    rw [hf]
    simp only [go_sem, Nat.reduceEqDiff, undef]
    refine finL_ret [0] ⟨rfl, rfl, rfl, rfl, _, rfl, a, ⟨rfl, ha⟩, ?_⟩
    show [AO.gc _ _ _ a] = _
    rw [hgcJ _ _ a rfl ha]
  · rintro e σ ⟨rfl, a, x, ha, hf, rfl⟩
    rw [hf]
    simp only [go_sem]
    refine finL_ret [0] ⟨rfl, rfl, rfl, rfl, _, rfl, a, ⟨rfl, ha⟩, ?_⟩
    show [AO.gc _ _ _ a] = _
    rw [hgcJ _ _ a rfl ha]
end Go.Proofs.Ytcpkkjbkbdmopaa

/- The first hour at which a line is dry; how many towels are not dry. -/
namespace Go.Proofs.Ytcpkkjbkbdmopaa
open Go Go.Ab

theorem memo_gc {f : Nat → Nat} (kp : List Nat) (σ : List AO) (a : AO) (_ : pos? kp 0 = some 0) (h : MemoY f a) : AO.gc kp σ 12 a = a := by obtain ⟨_, _, _, _, rfl⟩ := h; rfl
theorem memo_ren {f : Nat → Nat} (ρ : Nat → Nat) (a : AO) (h : MemoY f a) : AO.ren ρ a = a := by obtain ⟨_, _, _, _, rfl⟩ := h; rfl

/-! ### Hours, one behind the other -/
def yT (r : Ra) (foul : Bool) : T := .ptr (.agg (E.wks (yC r foul 0))) 0
theorem yT_4 (r : Ra) (foul : Bool) : (E.wks (yC r foul 0))[4]? = some (vi r.hours) := rfl
def hoursI (H at_ : Nat) : List Int := (hoursL H at_).map fun h : Nat => (h : Int)
theorem hoursI_len (H at_ : Nat) : (hoursI H at_).length = H + 1 - at_ := by simp [hoursI, hoursL]
theorem hoursI_at {H at_ j : Nat} (h : j < H + 1 - at_) : (hoursI H at_)[j]? = some ((at_ + j : Nat) : Int) := by
  unfold hoursI hoursL
  rw [List.getElem?_map, List.getElem?_range' h, Option.map_some, Nat.one_mul]
theorem hours_find {H at_ : Nat} (p : Nat → Bool) : (hoursI H at_).find? (fun x => p x.toNat) = ((hoursL H at_).find? p).map fun h : Nat => (h : Int) := by
  unfold hoursI
  rw [List.find?_map]
  rfl

set_option maxRecDepth 8000 in
theorem ends_gen (r : Ra) (hr : r.OK) (foul : Bool) (at_ : Nat) (ha : at_ ≤ 12) : AGen Try.prog 111 (([] : List T).map .t ++ .yld :: ([.ptr (.agg [vi at_]) 0, .ptr (.agg [yT r foul]) 0] : List T).map .t) ((hoursI r.H at_).map (.int .i64)) (stp true ((hoursI r.H at_).map (Value.int .i64))) := by
  refine AGen.walkS k111 ?_
  unfold c111
  obtain ⟨g1, g2, g3⟩ := hr.H
  have hat := fun {j} => hoursI_at (H := r.H) (at_ := at_) (j := j)
  have hlen := hoursI_len r.H at_
  have h4 := yT_4 r foul
  rw [g3] at h4
  generalize hoursI r.H at_ = L at *
  unfold yT
  generalize E.wks (yC r foul 0) = Y at *
  simp only [go_sem, Nat.reduceEqDiff, Nat.reduceAdd]
  refine awpL_loopK (r.H + 1 - at_) (fun i s' => s' = { env := [(4, .t (vi (at_ + i : Nat))), (0, .yld), (1, .t (.ptr (.agg [vi at_]) 0)), (2, .t (.ptr (.agg [.ptr (.agg Y) 0]) 0))], σ := [], k := i }) ⟨_, Sub.gc [] [4, 0, 1, 2] rfl rfl, rfl⟩ ?_
  rintro i s' hi rfl
  simp only [go_sem, Nat.reduceEqDiff, Nat.reduceAdd, h4]
  cases g : decide (((at_ + i : Nat) : Int) ≤ (r.H : Int))
  · have hie : i = r.H + 1 - at_ := by have := of_decide_eq_false g; omega
    simp only [go_sem]
    exact finS_ret (.inl (by rw [List.length_map, hlen, ← hie])) [] ⟨rfl, rfl, _, rfl⟩
  have hil : i < r.H + 1 - at_ := by have := of_decide_eq_true g; omega
  have hw : IntKind.i64.wrap (((at_ + i : Nat) : Int) + 1) = ((at_ + (i + 1) : Nat) : Int) := by rw [wrap_id (by omega) (by omega)]; omega
  have hat' := hat hil
  simp only [go_sem, Nat.reduceEqDiff, Bool.not_true, Bool.not_false, hw]
  refine ⟨by rw [List.getElem?_map, hat']; rfl, finS_ret (.inr rfl) [] ⟨rfl, rfl, _, rfl⟩, hil, _, Sub.gc [] [4, 0, 1, 2] rfl rfl, rfl⟩

theorem qends_ok (r : Ra) (foul : Bool) (n : Int) (a : AO) (ha : ∀ kp σ, pos? kp 0 = some 0 → AO.gc kp σ 12 a = a) : ACall Try.prog 96 [yE r foul 0, .t (vi n)] [a] (fun o σ' => ∃ a', (o = .ret (.fn (.func 111) [] [.t (.ptr (.agg [vi n]) 0), .vp [yE r foul 0] 0]) ∧ a' = a) ∧ σ' = [a']) := by
  refine ACall.walk k96 ?_
  unfold c96
  have hnt := allT_yC r foul 0
  simp only [go_sem, Nat.reduceEqDiff, Nat.reduceAdd]
  refine finL_ret [0] ⟨rfl, rfl, rfl, rfl, _, rfl, a, ⟨?_, rfl⟩, ?_⟩
  · have h1 : ∀ σ : List AO, E.gc [0] σ 10 (yE r foul 0) = yE r foul 0 := fun σ => gc_yE r foul (n := 8) (m' := 0) rfl
    have key : ∀ σ : List AO, σ[1]? = some (.cells [yE r foul 0]) → σ[2]? = some (.cells [.t (vi n)]) → E.gc [0] σ 12 (.fn (.func 111) [] [.ptr 2 0, .ptr 1 0]) = .fn (.func 111) [] [.t (.ptr (.agg [vi n]) 0), .vp [yE r foul 0] 0] := by
      intro σ e1 e2
      have q1 : E.gc [0] σ 11 (.ptr 1 0) = .vp [yE r foul 0] 0 := by
        rw [E.gc]
        simp only [pos?, e1, List.map_cons, List.map_nil, h1, allT]
        rfl
      have q2 : E.gc [0] σ 11 (.ptr 2 0) = .t (.ptr (.agg [vi n]) 0) := by
        rw [E.gc]
        simp only [pos?, e2, List.map_cons, List.map_nil]
        rfl
      rw [E.gc, List.map_nil, List.map_cons, List.map_cons, List.map_nil, q1, q2]
      rfl
    exact congrArg Out.ret (key _ rfl rfl)
  · show [AO.gc _ _ _ a] = _
    rw [ha _ _ rfl]

/-! ### From when on it is dry -/
set_option maxRecDepth 8000 in
set_option maxHeartbeats 4000000 in
theorem suit_ok (r : Ra) (hr : r.OK) (foul : Bool) (l : Ln) (hl : l ∈ r.lines) (h : Nat) (hh : h ≤ r.H) (a : AO) (ha : MemoY (r.f foul) a) :
    ACall Try.prog 106 [.t (vi h), .vp [yE r foul 0] 0, .t (.ptr (tLn l) 0)] [a] (yCall (r.f foul) (.ret (.t (vb (decide (l.wet foul ≤ driedN (r.f foul) l.from_.toNat h)))))) := by
  obtain ⟨ks, xs, clk, M, rfl⟩ := ha
  obtain ⟨g1, g2, g3⟩ := hr.H
  obtain ⟨b1, b2, b3, b4, b5, b6, b7⟩ := hr.ln l hl
  refine ACall.walk k106 ?_
  have hd := dried_ok r hr foul l.from_.toNat (by omega) h hh M (clk := clk)
  rw [show ((l.from_.toNat : Nat) : Int) = l.from_ by omega] at hd
  have hw : (if foul then l.hi else l.lo) = ((l.wet foul : Nat) : Int) := by unfold Ln.wet; split <;> omega
  have w1 := fwet_ok l.lo l.hi
  have w2 := gwet_ok l.lo l.hi
  have h10 := yC_10 r foul 0
  have hren := fun ρ => ren_y ρ r foul 0
  have hm : mfind [(111, 130), (114, 132)] (if foul = true then 114 else 111) = some (if foul then 132 else 130) := by cases foul <;> rfl
  have hc : ACall Try.prog (if foul then 132 else 130) [.t (.agg []), .t (.agg [vi l.lo, vi l.hi])] [] (ret (vi (l.wet foul : Nat))) := by
    rw [← hw]
    cases foul
    · exact w1
    · exact w2
  have hge : ∀ D : Nat, decide ((D : Int) ≥ ((l.wet foul : Nat) : Int)) = decide (l.wet foul ≤ D) := fun D => by
    apply decide_eq_decide.2; omega
  unfold c106 tLn
  unfold wth at h10
  simp only [go_sem, Nat.reduceEqDiff, Nat.reduceAdd, Nat.reduceLeDiff, h10]
  refine lend1 (m := 0) hd rfl rfl (by simp only [E.rens, E.ren, hren]; rfl) ?_
  rintro o a' ⟨rfl, ks2, xs2, clk2, M2, rfl⟩
  simp only [go_sem, Nat.reduceEqDiff, Nat.reduceAdd, Out.ren, E.ren, AO.ren, h10, hm]
  refine ACallL.quiet1 hc rfl rfl rfl ?_
  simp only [go_sem, Nat.reduceEqDiff, Nat.reduceAdd, hge]
  exact finL_ret [0] ⟨rfl, rfl, rfl, rfl, _, rfl, _, ⟨rfl, _, _, _, M2, rfl⟩, rfl⟩

set_option maxRecDepth 8000 in
set_option maxHeartbeats 4000000 in
theorem from_ok (r : Ra) (hr : r.OK) (foul : Bool) (l : Ln) (hl : l ∈ r.lines) (a : AO) (ha : MemoY (r.f foul) a) :
    ACall Try.prog 76 [yE r foul 0, .t (tLn l)] [a] (yCall (r.f foul) (.ret (.tup [.t (vi ((((fromN (r.f foul) r.H l.from_.toNat (l.wet foul)).getD 0 : Nat) : Int))), .t (vb (fromN (r.f foul) r.H l.from_.toNat (l.wet foul)).isSome)]))) := by
  obtain ⟨g1, g2, g3⟩ := hr.H
  obtain ⟨b1, b2, b3, b4, b5, b6, b7⟩ := hr.ln l hl
  refine ACall.walk k76 ?_
  have hnt := allT_yC r foul 0
  have hren := fun ρ => ren_y ρ r foul 0
  have hend := qends_ok r foul l.from_ a (fun kp σ h => memo_gc kp σ a h ha)
  have hfirst := first_ok (f := 111) (k := 106) (fs := []) (cs := [.ptr (.agg [vi l.from_]) 0, .ptr (.agg [yT r foul]) 0]) (G := .fn (.func 111) [] [.t (.ptr (.agg [vi l.from_]) 0), .vp [yE r foul 0] 0])
    (ecs := [.vp [yE r foul 0] 0, .t (.ptr (tLn l) 0)]) rfl (hoursI r.H l.from_.toNat) (by have := ends_gen r hr foul l.from_.toNat (by omega); rw [show ((l.from_.toNat : Nat) : Int) = l.from_ by omega] at this; exact this) (MemoY (r.f foul))
    (fun x => decide (l.wet foul ≤ driedN (r.f foul) l.from_.toNat x.toNat)) (fun x hx a ha => by
      unfold hoursI at hx
      obtain ⟨h, hm, rfl⟩ := List.mem_map.1 hx
      exact suit_ok r hr foul l hl h (mem_hoursL.1 hm).2 a ha) (fun kp σ h => by
        have h1 : E.gc kp σ 10 (yE r foul 0) = yE r foul 0 := gc_yE r foul (n := 8) (m' := 0) h
        have h2 : E.gc kp σ 11 (.vp [yE r foul 0] 0) = .vp [yE r foul 0] 0 := by rw [E.gc, List.map_cons, List.map_nil, h1]; rfl
        rw [List.map_cons, List.map_cons, List.map_nil, h2]
        rfl) memo_gc memo_ren (fun ρ h => by simp only [E.rens, E.ren, hren, h]) rfl a ha
  rw [hours_find (fun x => decide (l.wet foul ≤ driedN (r.f foul) l.from_.toNat x))] at hfirst
  have e1 : ∀ o : Option Nat, (o.map fun h : Nat => (h : Int)).getD 0 = ((o.getD 0 : Nat) : Int) := fun o => by cases o <;> rfl
  have e2 : ∀ o : Option Nat, (o.map fun h : Nat => (h : Int)).isSome = o.isSome := fun o => by cases o <;> rfl
  rw [e1, e2, show (hoursL r.H l.from_.toNat).find? (fun x => decide (l.wet foul ≤ driedN (r.f foul) l.from_.toNat x)) = fromN (r.f foul) r.H l.from_.toNat (l.wet foul) from rfl] at hfirst
  generalize fromN (r.f foul) r.H l.from_.toNat (l.wet foul) = F at *
  unfold c76 tLn at *
  simp only [go_sem, Nat.reduceEqDiff, Nat.reduceAdd]
  refine awpL_gcpE [0] [2, 3] { env := [(2, .vp [yE r foul 0] 0), (3, .t (.ptr (.agg [vi l.many, vi l.from_, vi l.lo, vi l.hi]) 0))], σ := [a] } ?_ rfl rfl ?_
  · refine St.gc_mk ?_ ?_ rfl rfl
    · have h1 : ∀ σ : List AO, E.gc [0] σ 11 (yE r foul 0) = yE r foul 0 := fun σ => gc_yE r foul (n := 9) (m' := 0) rfl
      have key : ∀ σ : List AO, σ[1]? = some (.cells [yE r foul 0]) → E.gc [0] σ 12 (.ptr 1 0) = .vp [yE r foul 0] 0 := by
        intro σ e
        rw [E.gc]
        simp only [pos?, e, List.map_cons, List.map_nil, h1, allT]
        rfl
      simp only [List.map_cons, List.map_nil, lk, Nat.reduceEqDiff, reduceIte]
      rw [key _ rfl]
      rfl
    · show [AO.gc _ _ _ a] = _
      rw [memo_gc _ _ a rfl ha]
  simp only [go_sem, Nat.reduceEqDiff, Nat.reduceAdd]
  refine lend1 (m := 0) hend rfl (memo_ren _ a ha).symm (by simp only [E.rens, E.ren, hren]; rfl) ?_
  rintro o a' ⟨rfl, rfl⟩
  simp only [go_sem, Nat.reduceEqDiff, Out.ren, E.ren, E.rens, hren, memo_ren _ _ ha]
  refine lend1 (m := 0) hfirst rfl (memo_ren _ _ ha).symm (by simp only [E.rens, E.ren, hren]; rfl) ?_
  rintro o a' ⟨rfl, ha'⟩
  simp only [go_sem, Nat.reduceEqDiff, Out.ren, E.ren, E.rens, memo_ren _ _ ha']
  refine finL_ret [0] ⟨rfl, rfl, rfl, rfl, _, rfl, _, ⟨rfl, ha'⟩, ?_⟩
  show [AO.gc _ _ _ a'] = _
  rw [memo_gc _ _ a' rfl ha']
end Go.Proofs.Ytcpkkjbkbdmopaa

/- How many towels are not dry. -/
namespace Go.Proofs.Ytcpkkjbkbdmopaa
open Go Go.Ab

def lefts (t : Ln → Nat) (ls : List Ln) (hour : Nat) : List Int := (ls.filter fun l => decide (hour < t l)).map (·.many)
theorem lefts_succ (t : Ln → Nat) (ls : List Ln) (hour : Nat) {j : Nat} {l : Ln} (h : ls[j]? = some l) : lefts t (ls.take (j + 1)) hour = lefts t (ls.take j) hour ++ (if hour < t l then [l.many] else []) := by
  unfold lefts
  rw [List.take_add_one, h, Option.toList_some, List.filter_append, List.map_append]
  congr 1
  by_cases hc : hour < t l
  · simp [hc]
  · simp [hc]
theorem lefts_len (t : Ln → Nat) (ls : List Ln) (hour : Nat) : (lefts t ls hour).length ≤ ls.length := by
  unfold lefts; rw [List.length_map]; exact List.length_filter_le _ _
theorem lefts_mem {t : Ln → Nat} {ls : List Ln} {hour : Nat} {x : Int} (h : x ∈ lefts t ls hour) : ∃ l ∈ ls, x = l.many := by
  unfold lefts at h
  obtain ⟨l, hl, rfl⟩ := List.mem_map.1 h
  exact ⟨l, (List.mem_filter.1 hl).1, rfl⟩

theorem tm_cond {F : Option Nat} {hour : Nat} (hh : hour ≤ 12) : (F.isSome && decide (((F.getD 0 : Nat) : Int) ≤ (hour : Int))) = !decide (hour < F.getD 99) := by
  cases F with
  | none => simp; omega
  | some x =>
    simp only [Option.isSome_some, Option.getD_some, Bool.true_and]
    rw [← decide_not]
    apply decide_eq_decide.2
    omega

set_option maxRecDepth 8000 in
set_option maxHeartbeats 4000000 in
theorem left_ok (r : Ra) (hr : r.OK) (foul : Bool) (hour : Nat) (hh : hour ≤ r.H) (a : AO) (ha : MemoY (r.f foul) a) :
    ACall Try.prog 108 [yE r foul 0, .t (vi hour)] [a] (yCall (r.f foul) (.ret (.t (vi (r.left foul hour))))) := by
  obtain ⟨g1, g2, g3⟩ := hr.H
  have hnl := hr.nl
  refine ACall.walk k108 ?_
  have h8 := yC_8 r foul 0
  have hren := fun ρ => ren_y ρ r foul 0
  have hgy : ∀ σ : List AO, E.gc [0] σ 12 (yE r foul 0) = yE r foul 0 := fun σ => gc_yE r foul (n := 10) (m' := 0) rfl
  have hgy2 : ∀ σ : List AO, E.gc [0, 1] σ 12 (yE r foul 0) = yE r foul 0 := fun σ => gc_yE r foul (n := 10) (m' := 0) rfl
  unfold c108
  refine awpL_chop 1 (c1 := ?a1) (c2 := ?a2) (fun st => st = { env := [(4, .t (vi 0)), (0, yE r foul 0), (1, .t (vi hour))], σ := [a] }) ?hc ?_ ?_
  case hc => simp only [chop]; rfl
  · simp only [go_sem]
  rintro st rfl
  simp only [go_sem, Nat.reduceEqDiff, Nat.reduceAdd, h8, List.length_map]
  refine awpL_for (i := 16) (L := 15) r.lines.length (fun j st => ∃ a, MemoY (r.f foul) a ∧ st = { env := [(16, .t (vi j)), (15, .t (vi r.lines.length)), (14, .t (.slice 4 (r.lines.map tLn))), (5, .loc 1 (lefts (r.tm foul) (r.lines.take j) hour).length), (0, yE r foul 0), (1, .t (vi hour))], σ := [a, .row 1 (((lefts (r.tm foul) (r.lines.take j) hour).map vi).map .t)] }) ?_
    ⟨_, Sub.trans (Sub.ghost 5 1 (by decide) rfl) (Sub.gc [0, 1] [16, 15, 14, 5, 0, 1] rfl rfl), a, ha, ?_⟩ ?_ ?_
  · rintro k st ⟨a, _, rfl⟩; exact ⟨rfl, rfl⟩
  · refine St.gc_mk ?_ ?_ rfl rfl
    · simp only [List.map_cons, List.map_nil, lk, Nat.reduceEqDiff, reduceIte, List.length_cons, List.length_nil, hgy2]
      rfl
    · show [AO.gc _ _ _ a, _] = _
      rw [memo_gc _ _ a rfl ha]
      rfl
  · rintro j st hj ⟨a, ha, rfl⟩
    have hx : r.lines[j]? = some r.lines[j] := List.getElem?_eq_getElem hj
    have hmem : r.lines[j] ∈ r.lines := List.getElem_mem hj
    have hsucc := lefts_succ (r.tm foul) r.lines hour hx
    generalize r.lines[j] = l at *
    have hcall := from_ok r hr foul l hmem a ha
    have htm : r.tm foul l = (fromN (r.f foul) r.H l.from_.toNat (l.wet foul)).getD 99 := rfl
    have hcond := tm_cond (F := fromN (r.f foul) r.H l.from_.toNat (l.wet foul)) (hour := hour) (by omega)
    have hw : IntKind.i64.wrap ((j : Int) + 1) = ((j + 1 : Nat) : Int) := by rw [wrap_id (by omega) (by omega)]; omega
    have hll := lefts_len (r.tm foul) (r.lines.take j) hour
    rw [List.length_take] at hll
    rw [hsucc, htm]
    generalize lefts (r.tm foul) (r.lines.take j) hour = LL at *
    generalize fromN (r.f foul) r.H l.from_.toNat (l.wet foul) = F at *
    have hlm : (LL.length + 1 ≤ maxLen) = True := by simp [maxLen]; omega
    have hlm2 : ((LL.length + 1) * 8 ≤ 140737488355328) = True := by simp; omega
    have htl : tLn l = .agg [vi l.many, vi l.from_, vi l.lo, vi l.hi] := rfl
    rw [htl] at hcall
    have hgr : ∀ (xs : List Int) σ, ((xs.map vi).map E.t).map (E.gc [0, 1] σ 12) = (xs.map vi).map E.t := fun xs σ => gc_row _
    simp only [go_sem, Nat.reduceEqDiff, Nat.reduceAdd, undef, List.getElem?_map, hx, Option.map_some, htl]
    refine lend1 (m := 0) hcall rfl (memo_ren _ a ha).symm (by simp only [E.rens, E.ren, hren]; rfl) ?_
    rintro o a' ⟨rfl, ha'⟩
    have hga : ∀ σ, AO.gc [0, 1] σ 12 a' = a' := fun σ => memo_gc _ _ a' rfl ha'
    cases hF : F.isSome
    · rw [hF, Bool.false_and] at hcond
      have hc : hour < F.getD 99 := by simpa using hcond.symm
      rw [if_pos hc]
      simp only [go_sem, Nat.reduceEqDiff, Nat.reduceAdd, Nat.reduceLT, Nat.reduceLeDiff, undef, Out.ren, E.ren, E.rens, memo_ren _ _ ha', List.length_map, hlm, hlm2, hw]
      refine ⟨_, Sub.gc [0, 1] [16, 15, 14, 5, 0, 1] rfl rfl, a', ha', ?_⟩
      refine St.gc_mk ?_ ?_ rfl rfl
      · simp only [List.map_cons, List.map_nil, lk, Nat.reduceEqDiff, reduceIte, hgy2, List.length_append, List.length_cons, List.length_nil]; rfl
      · show [AO.gc _ _ _ a', AO.row 1 ((List.map E.t (List.map vi LL) ++ _).map (E.gc _ _ _))] = _
        rw [hga, List.map_append, hgr, List.map_append, List.map_append]
        rfl
    · rw [hF, Bool.true_and] at hcond
      cases hle : decide (((F.getD 0 : Nat) : Int) ≤ (hour : Int))
      · rw [hle] at hcond
        have hc : hour < F.getD 99 := by simpa using hcond.symm
        rw [if_pos hc]
        simp only [go_sem, Nat.reduceEqDiff, Nat.reduceAdd, Nat.reduceLT, Nat.reduceLeDiff, beq_self_eq_true, Out.ren, E.ren, E.rens, memo_ren _ _ ha', hle, List.length_map, hlm, hlm2, hw]
        refine ⟨_, Sub.gc [0, 1] [16, 15, 14, 5, 0, 1] rfl rfl, a', ha', ?_⟩
        refine St.gc_mk ?_ ?_ rfl rfl
        · simp only [List.map_cons, List.map_nil, lk, Nat.reduceEqDiff, reduceIte, hgy2, List.length_append, List.length_cons, List.length_nil]; rfl
        · show [AO.gc _ _ _ a', AO.row 1 ((List.map E.t (List.map vi LL) ++ _).map (E.gc _ _ _))] = _
          rw [hga, List.map_append, hgr, List.map_append, List.map_append]
          rfl
      · rw [hle] at hcond
        have hc : ¬ hour < F.getD 99 := by simpa using hcond.symm
        rw [if_neg hc, List.append_nil]
        simp only [go_sem, Nat.reduceEqDiff, Nat.reduceAdd, beq_self_eq_true, Out.ren, E.ren, E.rens, memo_ren _ _ ha', hle, hw]
        refine ⟨_, Sub.gc [0, 1] [16, 15, 14, 5, 0, 1] rfl rfl, a', ha', ?_⟩
        refine St.gc_mk ?_ ?_ rfl rfl
        · simp only [List.map_cons, List.map_nil, lk, Nat.reduceEqDiff, reduceIte, hgy2]; rfl
        · show [AO.gc _ _ _ a', AO.row 1 ((List.map E.t (List.map vi LL)).map (E.gc _ _ _))] = _
          rw [hga, hgr]
  · rintro st ⟨a, ha, rfl⟩
    rw [List.take_length]
    have hs := qsum_ok (lefts (r.tm foul) r.lines hour) (by have := lefts_len (r.tm foul) r.lines hour; omega) (fun x hx => by
      obtain ⟨l, hl, rfl⟩ := lefts_mem hx
      have := hr.ln l hl; omega)
    have hsum : (lefts (r.tm foul) r.lines hour).sum = r.left foul hour := rfl
    rw [hsum] at hs
    generalize lefts (r.tm foul) r.lines hour = LL at *
    simp only [go_sem, Nat.reduceEqDiff]
    refine ACallL.quiet1 hs rfl ?_ rfl ?_
    · rw [List.map_cons, List.map_nil, gc_loc (n := 10) (xs := LL.map vi) rfl rfl (by simp)]
    simp only [go_sem, Nat.reduceEqDiff]
    refine finL_ret [0] ⟨rfl, rfl, rfl, rfl, _, rfl, a, ⟨rfl, ha⟩, ?_⟩
    show [AO.gc _ _ _ a] = _
    rw [memo_gc _ _ a rfl ha]

/-- A yard is laid, behind whatever store. -/
theorem inL {r : Ra} (hr : r.OK) (foul : Bool) {w : T} (hw : w = wth foul) {σ : List AO} {R : Lz (Out → List AO → Prop)} (hk : R.get (.ret (yE r foul σ.length)) (σ ++ [.map shY [] [] 0])) : @ACallL Try.prog 75 [.t (.agg (tw3 r.tw ++ ra7 r)), .t w] σ R := by
  subst hw
  refine new1 (args := [.agg (tw3 r.tw ++ ra7 r), wth foul]) (in_ok r hr foul) ?_
  show R.get (.ret (.vp (E.rens (lendR [] σ.length) (yC r foul 0)) 0)) _
  rw [ren_y]
  exact hk
theorem leftL {r : Ra} (hr : r.OK) (foul : Bool) {hour : Nat} (hh : hour ≤ r.H) {m : Nat} {σ : List AO} {a : AO} (hm : σ[m]? = some a) (ha : MemoY (r.f foul) a) {R : Lz (Out → List AO → Prop)} (hk : ∀ a', MemoY (r.f foul) a' → R.get (.ret (.t (vi (r.left foul hour)))) (σ.set m a')) :
    @ACallL Try.prog 108 [yE r foul m, .t (vi hour)] σ R := by
  refine lend1 (m := m) (left_ok r hr foul hour hh a ha) hm (memo_ren _ a ha).symm (by simp only [E.rens, E.ren, ren_y]; rfl) ?_
  rintro o a' ⟨rfl, ha'⟩
  rw [memo_ren _ a' ha']
  exact hk a' ha'

set_option maxRecDepth 8000 in
theorem wet_ok (r : Ra) (hr : r.OK) (hour : Nat) (hh : hour ≤ r.H) : ACall Try.prog 83 [.t (tRa r), .t (vi hour)] [] (ret (tS (r.wet hour))) := by
  refine ACall.walk k83 ?_
  unfold c83 tRa
  have h1 := @inL r hr false
  have h2 := @inL r hr true
  unfold tw3 ra7 at h1 h2 ⊢
  simp only [List.cons_append, List.nil_append] at h1 h2
  simp only [go_sem, Nat.reduceEqDiff, Nat.reduceAdd]
  refine h1 rfl ?_
  simp only [go_sem, Nat.reduceEqDiff, Nat.reduceAdd]
  refine leftL hr false hh (m := 2) rfl ⟨[], [], 0, MapY.nil _, rfl⟩ ?_
  intro a' ha'
  simp only [go_sem, Nat.reduceEqDiff, Nat.reduceAdd]
  refine h2 rfl ?_
  simp only [go_sem, Nat.reduceEqDiff, Nat.reduceAdd]
  refine leftL hr true hh (m := 3) rfl ⟨[], [], 0, MapY.nil _, rfl⟩ ?_
  intro a2 ha2
  simp only [go_sem, Nat.reduceEqDiff, Nat.reduceAdd, Nat.reduceLeDiff, undef]
  exact finL_ret [] ⟨rfl, rfl, rfl, rfl, _, rfl, ret_mk rfl⟩
end Go.Proofs.Ytcpkkjbkbdmopaa

/- Is all valid? -/
namespace Go.Proofs.Ytcpkkjbkbdmopaa
open Go Go.Ab

abbrev chkO (r : Ra) (is : Bool) : Out := if r.ok then (if is then .ret (.tup []) else .pan (stp1 2)) else .pan (stp1 1)
def okLn' (H : Int) (l : Ln) : Bool := okLn H l

set_option maxRecDepth 8000 in
set_option maxHeartbeats 8000000 in
theorem check_ok (r : Ra) (is : Bool) (hL : r.tw.bs.length < 9223372036854775808) (hL2 : r.lines.length < 9223372036854775808) : ACall Try.prog 48 [.t (tRa r), .t (vb is)] [] (res (chkO r is)) := by
  refine ACall.walk k48 ?_
  have fail : ∀ {s : St}, r.ok = false → s.df = [] → s.k = 0 → @finL 0 0 ⟨[]⟩ ⟨res (chkO r is)⟩ (.pan (stp1 1)) s := fun h h1 h2 =>
    finL_pan [] ⟨by rw [h1]; rfl, h2, rfl, rfl, res_mk (by unfold chkO; rw [h]; rfl)⟩
  have hown := Own_ok r.tw (-1) hL
  have e1 : (specOwn r.tw (-1)).2 = if r.tw.ok then 2 else 1 := by
    unfold specOwn
    have : r.tw.isB (-1) = false := by simp [Tw.isB, wI]
    rw [this]
    split <;> rfl
  have e2 : specOwn r.tw (-1) = ((0, 0), if r.tw.ok then 2 else 1) := by
    unfold specOwn
    have : r.tw.isB (-1) = false := by simp [Tw.isB, wI]
    rw [this]
    split <;> rfl
  rw [e2] at hown
  clear e1 e2
  have hf1 : ok1 r = false → r.ok = false := fun h => by unfold Ra.ok; rw [h]; rfl
  have hf2 : ok2 r = false → r.ok = false := fun h => by unfold Ra.ok; rw [h]; simp
  have hf3 : ∀ l ∈ r.lines, okLn r.hours l = false → r.ok = false := fun l hl h => by
    unfold Ra.ok
    have : r.lines.all (okLn r.hours) = false := List.all_eq_false.2 ⟨l, hl, by rw [h]; simp⟩
    rw [this]; simp
  unfold c48
  refine awpL_chop 3 (c1 := ?a1) (c2 := ?a2) (fun st => ok1 r = true ∧ lk st.env 2 = .ptr 0 0 ∧ lk st.env 1 = .t (vb is) ∧ (∃ b, st.σ = [.cells ((tw3 r.tw ++ ra7 r).map .t), b]) ∧ st.df = [] ∧ st.k = 0) ?hc ?_ ?_
  case hc => simp only [chop]; rfl
  · have ho1 : ok1 r = (r.tw.ok && wI r.stock 0 60 && wI r.hours 1 12 && wI r.price 0 20 && decide (r.lines.length ≤ 4)) := rfl
    generalize ok1 r = O1 at *
    unfold tRa
    unfold tw3 at hown
    unfold tw3 ra7
    have w1 := qwithin_ok r.stock 0 60
    have w2 := qwithin_ok r.hours 1 12
    have w3 := qwithin_ok r.price 0 20
    have hdec : decide ((r.lines.length : Int) ≤ 4) = decide (r.lines.length ≤ 4) := by apply decide_eq_decide.2; omega
    have bad : ∀ {σ : List AO} {R : Lz (Out → List AO → Prop)}, R.get (.pan (stp1 1)) σ → @ACallL Try.prog 67 [.t (vb false), .t (vi 1)] σ R := fun h => ACallL.quiet1 (must_ok false 1) rfl rfl rfl h
    have good : ∀ {σ : List AO} {R : Lz (Out → List AO → Prop)}, R.get (.ret (.tup [])) σ → @ACallL Try.prog 67 [.t (vb true), .t (vi 1)] σ R := fun h => ACallL.quiet1 (must_ok true 1) rfl rfl rfl h
    have fail1 : ∀ {s : St}, O1 = false → s.df = [] → s.k = 0 → @finL 0 0 ⟨[]⟩ ⟨res (chkO r is)⟩ (.pan (stp1 1)) s := fun h => fail (hf1 h)
    simp only [go_sem, Nat.reduceEqDiff, Nat.reduceAdd, Nat.reduceLeDiff, Int.reduceNeg]
    refine ACallL.fresh1 hown rfl ?_
    cases k1 : r.tw.ok
    · simp only [spanE, tS, go_sem, Nat.reduceEqDiff, Nat.reduceAdd, Int.reduceBEq, undef]
      refine bad ?_
      simp only [go_sem]
      exact fail1 (by rw [ho1, k1]; rfl) rfl rfl
    simp only [spanE, tS, go_sem, Nat.reduceEqDiff, Nat.reduceAdd, Nat.reduceLeDiff, undef, beq_self_eq_true]
    refine ACallL.quiet1 w1 rfl rfl rfl ?_
    cases k2 : wI r.stock 0 60
    · simp only [go_sem, Nat.reduceEqDiff, undef]
      refine bad ?_
      simp only [go_sem]
      exact fail1 (by rw [ho1, k1, k2]; rfl) rfl rfl
    simp only [go_sem, Nat.reduceEqDiff, Nat.reduceAdd, Nat.reduceLeDiff, beq_self_eq_true]
    refine ACallL.quiet1 w2 rfl rfl rfl ?_
    cases k3 : wI r.hours 1 12
    · simp only [go_sem, Nat.reduceEqDiff, undef]
      refine bad ?_
      simp only [go_sem]
      exact fail1 (by rw [ho1, k1, k2, k3]; rfl) rfl rfl
    simp only [go_sem, Nat.reduceEqDiff, Nat.reduceAdd, beq_self_eq_true]
    refine ACallL.quiet1 w3 rfl rfl rfl ?_
    cases k4 : wI r.price 0 20
    · simp only [go_sem, Nat.reduceEqDiff, undef]
      refine bad ?_
      simp only [go_sem]
      exact fail1 (by rw [ho1, k1, k2, k3, k4]; rfl) rfl rfl
    cases k5 : decide (r.lines.length ≤ 4)
    · simp only [go_sem, Nat.reduceEqDiff, Nat.reduceAdd, Nat.reduceLeDiff, beq_self_eq_true, List.length_map, hdec, k5]
      refine bad ?_
      simp only [go_sem]
      exact fail1 (by rw [ho1, k1, k2, k3, k4, k5]; rfl) rfl rfl
    simp only [go_sem, Nat.reduceEqDiff, Nat.reduceAdd, Nat.reduceLeDiff, beq_self_eq_true, List.length_map, hdec, k5]
    refine good ?_
    simp only [go_sem, Nat.reduceEqDiff]
    exact ⟨by rw [ho1, k1, k2, k3, k4, k5]; rfl, _, rfl⟩
  rintro ⟨env, σ, df, k⟩ ⟨o1, q2, q1, ⟨b, hσ⟩, hdf, hk⟩
  simp only at q2 q1 hσ hdf hk
  subst hσ hdf hk
  have o1' := o1
  simp only [ok1, Bool.and_eq_true, decide_eq_true_eq, wI] at o1'
  obtain ⟨⟨⟨⟨t1, t2⟩, t3⟩, t4⟩, t5⟩ := o1'
  refine awpL_chop 2 (c1 := ?b1) (c2 := ?b2) (fun st => ok2 r = true ∧ lk st.env 2 = .ptr 0 0 ∧ lk st.env 1 = .t (vb is) ∧ st.σ = [.cells ((tw3 r.tw ++ ra7 r).map .t), b] ∧ st.df = [] ∧ st.k = 0) ?hc2 ?_ ?_
  case hc2 => simp only [chop]; rfl
  · have ho2 : ok2 r = (isSetI r.hours r.sun && isSetI r.hours r.rain && isSetI r.hours r.perhaps) := rfl
    have hset := isSet_ok r (by omega)
    generalize ok2 r = O2 at *
    unfold tRa at hset
    unfold tw3 ra7 at hset ⊢
    have bad : ∀ {σ : List AO} {R : Lz (Out → List AO → Prop)}, R.get (.pan (stp1 1)) σ → @ACallL Try.prog 67 [.t (vb false), .t (vi 1)] σ R := fun h => ACallL.quiet1 (must_ok false 1) rfl rfl rfl h
    have good : ∀ {σ : List AO} {R : Lz (Out → List AO → Prop)}, R.get (.ret (.tup [])) σ → @ACallL Try.prog 67 [.t (vb true), .t (vi 1)] σ R := fun h => ACallL.quiet1 (must_ok true 1) rfl rfl rfl h
    have fail1 : ∀ {s : St}, O2 = false → s.df = [] → s.k = 0 → @finL 0 0 ⟨[]⟩ ⟨res (chkO r is)⟩ (.pan (stp1 1)) s := fun h => fail (hf2 h)
    simp only [go_sem, Nat.reduceEqDiff, Nat.reduceAdd, Nat.reduceLeDiff, q2]
    refine ACallL.quiet1 (hset r.sun) rfl rfl rfl ?_
    cases k1 : isSetI r.hours r.sun
    · simp only [go_sem, Nat.reduceEqDiff, undef]
      refine bad ?_
      simp only [go_sem]
      exact fail1 (by rw [ho2, k1]; rfl) rfl rfl
    simp only [go_sem, Nat.reduceEqDiff, Nat.reduceAdd, Nat.reduceLeDiff, beq_self_eq_true, q2]
    refine ACallL.quiet1 (hset r.rain) rfl rfl rfl ?_
    cases k2 : isSetI r.hours r.rain
    · simp only [go_sem, Nat.reduceEqDiff, undef]
      refine bad ?_
      simp only [go_sem]
      exact fail1 (by rw [ho2, k1, k2]; rfl) rfl rfl
    simp only [go_sem, Nat.reduceEqDiff, Nat.reduceAdd, Nat.reduceLeDiff, beq_self_eq_true, q2]
    refine ACallL.quiet1 (hset r.perhaps) rfl rfl rfl ?_
    cases k3 : isSetI r.hours r.perhaps
    · simp only [go_sem, Nat.reduceEqDiff]
      refine bad ?_
      simp only [go_sem]
      exact fail1 (by rw [ho2, k1, k2, k3]; rfl) rfl rfl
    simp only [go_sem, Nat.reduceEqDiff]
    refine good ?_
    simp only [go_sem, Nat.reduceEqDiff, q2, q1]
    rw [ho2, k1, k2, k3]; rfl
  clear q2 q1
  rintro ⟨env, σ, df, k⟩ ⟨o2, q2, q1, hσ, hdf, hk⟩
  simp only at q2 q1 hσ hdf hk
  subst hσ hdf hk
  refine awpL_chop 1 (c1 := ?d1) (c2 := ?d2) (fun st => r.lines.all (okLn r.hours) = true ∧ lk st.env 1 = .t (vb is) ∧ st.df = [] ∧ st.k = 0) ?hc3 ?_ ?_
  case hc3 => simp only [chop]; rfl
  · unfold tw3 ra7
    simp only [go_sem, Nat.reduceEqDiff, Nat.reduceAdd, Nat.reduceLeDiff, q2, List.length_map]
    have e11 : IntKind.i64.wrap (r.hours - 1) = r.hours - 1 := wrap_id (by omega) (by omega)
    refine awpL_for (i := 60) (L := 59) r.lines.length (fun j st => (∀ l ∈ r.lines.take j, okLn r.hours l = true) ∧ st = { env := [(60, .t (vi j)), (59, .t (vi r.lines.length)), (58, .t (.slice 4 (r.lines.map tLn))), (2, .ptr 0 0), (1, .t (vb is))], σ := [.cells ((tw3 r.tw ++ ra7 r).map .t)] }) ?_
      ⟨_, Sub.gc [0] [60, 59, 58, 2, 1] rfl rfl, by simp, ?_⟩ ?_ ?_
    · rintro k st ⟨_, rfl⟩; exact ⟨rfl, rfl⟩
    · exact St.gc_mk (by simp only [List.map_cons, List.map_nil, lk, Nat.reduceEqDiff, reduceIte, q2, q1]; rfl) rfl rfl rfl
    · rintro j st hj ⟨hK, rfl⟩
      have hw : IntKind.i64.wrap ((j : Int) + 1) = ((j + 1 : Nat) : Int) := by rw [wrap_id (by omega) (by omega)]; omega
      have hx : r.lines[j]? = some r.lines[j] := List.getElem?_eq_getElem hj
      have tx : r.lines.take (j + 1) = r.lines.take j ++ [r.lines[j]] := by rw [List.take_add_one, hx]; rfl
      have hmem : r.lines[j] ∈ r.lines := List.getElem_mem hj
      rw [tx]
      generalize r.lines[j] = l at *
      have w1 := qwithin_ok l.many 1 6
      have w2 := qwithin_ok l.from_ 0 (r.hours - 1)
      have hol : okLn r.hours l = (wI l.many 1 6 && wI l.from_ 0 (r.hours - 1) && decide (1 ≤ l.lo ∧ l.lo ≤ l.hi ∧ l.hi ≤ 8)) := rfl
      have bad : ∀ {σ : List AO} {R : Lz (Out → List AO → Prop)}, R.get (.pan (stp1 1)) σ → @ACallL Try.prog 67 [.t (vb false), .t (vi 1)] σ R := fun h => ACallL.quiet1 (must_ok false 1) rfl rfl rfl h
      have good : ∀ {σ : List AO} {R : Lz (Out → List AO → Prop)}, R.get (.ret (.tup [])) σ → @ACallL Try.prog 67 [.t (vb true), .t (vi 1)] σ R := fun h => ACallL.quiet1 (must_ok true 1) rfl rfl rfl h
      have fail1 : ∀ {s : St}, okLn r.hours l = false → s.df = [] → s.k = 0 → @finL 0 0 ⟨[]⟩ ⟨res (chkO r is)⟩ (.pan (stp1 1)) s := fun h => fail (hf3 l hmem h)
      generalize hgl : okLn r.hours l = OL at *
      have htl : tLn l = .agg [vi l.many, vi l.from_, vi l.lo, vi l.hi] := rfl
      unfold tw3 ra7
      simp only [go_sem, Nat.reduceEqDiff, Nat.reduceAdd, Nat.reduceLeDiff, undef, List.getElem?_map, hx, Option.map_some, htl]
      refine ACallL.quiet1 w1 rfl rfl rfl ?_
      cases k1 : wI l.many 1 6
      · simp only [go_sem, Nat.reduceEqDiff, undef]
        refine bad ?_
        simp only [go_sem]
        exact fail1 (by rw [hol, k1]; rfl) rfl rfl
      simp only [go_sem, Nat.reduceEqDiff, Nat.reduceAdd, Nat.reduceLeDiff, beq_self_eq_true, e11]
      refine ACallL.quiet1 w2 rfl rfl rfl ?_
      cases k2 : wI l.from_ 0 (r.hours - 1)
      · simp only [go_sem, Nat.reduceEqDiff, undef]
        refine bad ?_
        simp only [go_sem]
        exact fail1 (by rw [hol, k1, k2]; rfl) rfl rfl
      cases k3 : decide (1 ≤ l.lo)
      · simp only [go_sem, Nat.reduceEqDiff, Nat.reduceAdd, Nat.reduceLeDiff, undef, beq_self_eq_true, k3]
        refine bad ?_
        simp only [go_sem]
        exact fail1 (by rw [hol, k1, k2]; simp at k3; simp; omega) rfl rfl
      cases k4 : decide (l.lo ≤ l.hi)
      · simp only [go_sem, Nat.reduceEqDiff, Nat.reduceAdd, Nat.reduceLeDiff, undef, beq_self_eq_true, k3, k4]
        refine bad ?_
        simp only [go_sem]
        exact fail1 (by rw [hol, k1, k2]; simp at k4; simp; omega) rfl rfl
      cases k5 : decide (l.hi ≤ 8)
      · simp only [go_sem, Nat.reduceEqDiff, Nat.reduceAdd, Nat.reduceLeDiff, beq_self_eq_true, k3, k4, k5]
        refine bad ?_
        simp only [go_sem]
        exact fail1 (by rw [hol, k1, k2]; simp at k5; simp; omega) rfl rfl
      simp only [go_sem, Nat.reduceEqDiff, Nat.reduceAdd, Nat.reduceLeDiff, beq_self_eq_true, k3, k4, k5]
      refine good ?_
      simp only [go_sem, Nat.reduceEqDiff, hw]
      refine ⟨_, Sub.gc [0] [60, 59, 58, 2, 1] rfl rfl, ?_, St.gc_mk rfl rfl rfl rfl⟩
      intro y hy
      rcases List.mem_append.1 hy with h | h
      · exact hK y h
      · simp at h
        rw [h, hgl, hol, k1, k2]
        simp at k3 k4 k5
        simp [k3, k4, k5]
    · rintro st ⟨hK, rfl⟩
      rw [List.take_length] at hK
      simp only [go_sem, Nat.reduceEqDiff]
      exact List.all_eq_true.2 hK
  clear q2 q1
  rintro ⟨env, σ, df, k⟩ ⟨o3, q1, hdf, hk⟩
  simp only at q1 hdf hk
  subst hdf hk
  have hok : r.ok = true := by unfold Ra.ok; rw [o1, o2, o3]; rfl
  simp only [go_sem, q1]
  refine ACallL.quiet1 (must_ok is 2) rfl rfl (by cases is <;> rfl) ?_
  cases is
  · simp only [go_sem]
    exact finL_pan [] ⟨rfl, rfl, rfl, rfl, res_mk (by unfold chkO; rw [hok]; rfl)⟩
  · simp only [go_sem]
    exact finL_ret [] ⟨rfl, rfl, rfl, rfl, _, rfl, res_mk (by unfold chkO; rw [hok]; rfl)⟩
end Go.Proofs.Ytcpkkjbkbdmopaa
