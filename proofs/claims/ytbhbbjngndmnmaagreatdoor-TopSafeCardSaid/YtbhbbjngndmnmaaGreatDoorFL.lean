/- Proved here: laws that the statements need (AbZ2). No conditions but those that each law states. -/
import Derived.Test.YtbhbbjngndmnmaaGreatDoorFJ
set_option linter.unusedSimpArgs false
set_option linter.unusedVariables false
namespace Go.Ab
abbrev ap (d : Nat) (op : AOp) : AI := ⟨some d, none, op⟩
abbrev aT (d t : Nat) (op : AOp) : AI := ⟨some d, some (t, true), op⟩
abbrev aF (d t : Nat) (op : AOp) : AI := ⟨some d, some (t, false), op⟩
abbrev aU (op : AOp) : AI := ⟨none, none, op⟩
abbrev zi (n : Int) : Opd := .lit (.int .i64 n)
abbrev tm (n : Nat) : Opd := .tmp n
attribute [go_sem] ap aT aF aU zi tm
theorem nat_neg (n : Nat) : (((n : Nat) : Int) < 0) = False := by simp
theorem bit_eq0 {a i : Nat} (ha : a < 9223372036854775808) : (bits .and .i64 ((a : Int).fdiv (2 ^ (min i 64))) 1 == 0) = !a.testBit i := by
  rw [shr_nat ha, show (1 : Int) = ((1 : Nat) : Int) from rfl, bits_and (Nat.lt_of_le_of_lt (by rw [Nat.shiftRight_eq_div_pow]; exact Nat.div_le_self _ _) ha) (by omega), Nat.testBit_eq_decide_div_mod_eq, Nat.shiftRight_eq_div_pow]
  have : a / 2 ^ i &&& 1 = a / 2 ^ i % 2 := Nat.and_one_is_mod _
  rw [this]
  have h2 := Nat.mod_two_eq_zero_or_one (a / 2 ^ i)
  rcases h2 with h | h <;> rw [h] <;> rfl
mutual
def E.wk : E → T
  | .t x => x
  | .fn f fs cs => .fn f (E.wks fs) (E.wks cs)
  | .iface ty x => .iface ty (E.wk x)
  | .agg cs => .agg (E.wks cs)
  | .vp cs off => .ptr (.agg (E.wks cs)) off
  | _ => .hole
def E.wks : List E → List T
  | [] => []
  | e :: es => E.wk e :: E.wks es
end
mutual
theorem RepE.wk {yl : Nat} {ι : Pl} {σ : List AO} {h : Hp} : ∀ (e : E) (v : Value), RepE yl ι σ h e v → RepT h e.wk v
  | .t x, v, r => by unfold E.wk; unfold RepE at r; exact r
  | .undef, _, _ | .ptr _ _, _, _ | .elt _ _ _ _ _, _, _ | .loc _ _, _, _ | .map _, _, _ | .iter _, _, _ | .tup _, _, _ | .yld, _, _ | .sub _ _ _ _ _, _, _ => by unfold E.wk RepT; trivial
  | .fn f fs cs, v, r => by
    unfold E.wk
    unfold RepE at r
    unfold RepT
    obtain ⟨us, vs, e, r1, r2⟩ := r
    exact ⟨us, vs, e, RepEs.wk fs us r1, RepEs.wk cs vs r2⟩
  | .iface ty x, v, r => by
    unfold E.wk
    unfold RepE at r
    unfold RepT
    obtain ⟨u, e, r1⟩ := r
    exact ⟨u, e, RepE.wk x u r1⟩
  | .agg cs, v, r => by
    unfold E.wk
    unfold RepE at r
    unfold RepT
    obtain ⟨us, e, r1, o⟩ := r
    exact ⟨us, e, RepEs.wk cs us r1, o⟩
  | .vp cs off, v, r => by
    unfold E.wk
    unfold RepE at r
    unfold RepT
    obtain ⟨b, us, e, r1, o, arr, ty, fr, q1, q2⟩ := r
    exact ⟨b, 0, .agg us.toArray, by simpa using e, by unfold RepT; exact ⟨us, rfl, RepEs.wk cs us r1, o⟩, by simpa [Value.cells] using o, arr, ty, fr, q1, fun j u hu => q2 j u (by simpa [Value.cells] using hu)⟩
theorem RepEs.wk {yl : Nat} {ι : Pl} {σ : List AO} {h : Hp} : ∀ (es : List E) (vs : List Value), RepEs yl ι σ h es vs → RepTs h (E.wks es) vs
  | [], _, r => by unfold E.wks; unfold RepEs at r; unfold RepTs; exact r
  | e :: es, _, r => by
    unfold E.wks
    unfold RepEs at r
    unfold RepTs
    obtain ⟨u, us, e', r1, r2⟩ := r
    exact ⟨u, us, e', RepE.wk e u r1, RepEs.wk es us r2⟩
end
theorem Sub.wk {nb : Nat} {s : St} (t : Nat) : Sub nb s { s with env := (t, .t (lk s.env t).wk) :: s.env } := fun _ _ w ι vis _ hn X =>
  ⟨ι, vis, ⟨X.mem, X.sz, fun i => by
    simp only [lk]
    split
    · rename_i e
      subst e
      unfold RepE
      exact RepE.wk _ _ (X.env _)
    · exact X.env i, X.df⟩, UpN.refl hn ι vis w⟩
theorem ACall.weak {P : Program} {f : Nat} {args : List E} {σ : List AO} {R : Out → List AO → Prop} (h : ACall P f ((E.wks args).map .t) σ R) : ACall P f args σ R :=
  ⟨h.1, fun C k w ι vis D vs hC M r => h.2 C k w ι vis D vs hC M (RepEs.map_t (RepEs.wk args vs r))⟩
def chop : Nat → AC → AC × AC
  | 1, .seq a b => (a, b)
  | n + 1, .seq a b => (.seq a (chop n b).1, (chop n b).2)
  | _, c => (.skip, c)
theorem awp_assoc {W : W} {a b c : AC} {Q : Ex → St → Prop} {s : St} : awp W (.seq (.seq a b) c) Q s = awp W (.seq a (.seq b c)) Q s := by
  simp only [awp]
  congr 1
  funext e s
  cases e <;> rfl
theorem awp_chop {W : W} : ∀ (n : Nat) (c : AC) {Q : Ex → St → Prop} {s : St}, awp W (.seq (chop n c).1 (chop n c).2) Q s = awp W c Q s
  | 0, c, _, _ => by simp only [chop, awp]
  | n + 1, c, Q, s => by
    cases c with
    | seq a b =>
      cases n with
      | zero => rfl
      | succ n =>
        show awp W (.seq (.seq a (chop (n + 1) b).1) (chop (n + 1) b).2) Q s = _
        rw [awp_assoc]
        simp only [awp]
        congr 1
        funext e s
        cases e with
        | normal => exact awp_chop (n + 1) b
        | _ => rfl
    | _ => simp only [chop, awp]
section
variable {W : W} {Q : Lz (Ex → St → Prop)} {s : St}
theorem awpL_chop (n : Nat) {c c1 c2 : AC} (mid : St → Prop) (hc : chop n c = (c1, c2)) (ha : @awpL W ⟨c1⟩ ⟨fun e s => match e with | .normal => mid s | e => Q.get e s⟩ s) (hb : ∀ s, mid s → @awpL W ⟨c2⟩ Q s) : @awpL W ⟨c⟩ Q s := by
  have h := awp_chop (W := W) n c (Q := Q.get) (s := s)
  rw [hc] at h
  show awp W c Q.get s
  rw [← h]
  exact awp_mono c1 (fun e s h => by cases e <;> first | exact hb s h | exact h) ha
theorem awpL_forC {c i b : Nat} {m : Int} {body rg : AC} (N : Nat) (hm : m = N) (S : Nat → St → Prop) (hS : ∀ k s, S k s → lk s.env i = .t (vi k)) (h0 : ∃ s', Sub W.nb s s' ∧ S 0 s')
    (h : ∀ k s, k < N → S k s → @awpL W ⟨.seq body rg⟩ ⟨fun e s => match e with | .normal => ∃ s', Sub W.nb s s' ∧ S (k + 1) s' | e => Q.get e s⟩ { s with env := (c, .t (vb true)) :: s.env })
    (hx : ∀ s, S N s → Q.get (.exit b) { s with env := (c, .t (vb false)) :: s.env }) :
    @awpL W ⟨.loop (.seq (.reg [⟨some c, none, .bin .lss (.tmp i) (.lit (.int .i64 m))⟩]) (.seq (.cond (.tmp c) .skip (.exit b)) (.seq body rg)))⟩ Q s := by
  subst hm
  refine awpL_loopK N S h0 fun k s hk hs => ?_
  have e1 := hS k s hs
  simp only [go_sem, e1]
  refine BrL.mk (fun hb => ?_) (fun hb => ?_)
  · have hlt : k < N := by simpa using hb
    simp only [hb]
    refine awp_mono body ?_ (h k s hlt hs)
    intro e s1 h1
    cases e with
    | normal => exact awp_mono rg (fun e s h2 => by
        cases e with
        | normal => exact ⟨hlt, h2⟩
        | _ => exact h2) h1
    | _ => exact h1
  · have : k = N := by have : ¬ (k : Int) < N := by simpa using hb
                       omega
    subst this
    simp only [hb, go_sem]
    exact hx s hs
end
end Go.Ab
