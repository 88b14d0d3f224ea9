/- Proved here: laws that the statements need (AbE, AbF). No conditions but those that each law states. -/
import Derived.Test.YtbhbbjngndmnmaaGreatDoorFB
import Derived.Laws.MakeOwn
import Derived.Maps.Own
set_option linter.unusedSimpArgs false
set_option linter.unusedVariables false
namespace Go.Ab
inductive AOp where
  | mov (x : Opd)
  | pick (c a b : Opd)
  | alloc (z : List Value)
  | box (x : Opd)
  | build (z : List Value) (parts : List (Nat × Nat × Opd))
  | bslice (es : Nat) (z : Value) (len : Nat) (parts : List (Nat × Opd))
  | load (agg : Bool) (k : Nat) (x : Opd)
  | store (k : Nat) (p x : Opd)
  | nilck (x : Opd)
  | nilckM (tbl : List (Nat × Nat)) (name : String) (x : Opd)
  | bin (op : BinOp) (x y : Opd)
  | eqb (neg : Bool) (x y : Opd)
  | un (op : UnOp) (x : Opd)
  | conv (k : IntKind) (x : Opd)
  | faddr (off : Nat) (x : Opd)
  /-- Variables without cells. -/
  | box0 (t : Nat) (x : Opd)
  | faddr0 (t : Nat) (x : Opd)
  | load0 (x : Opd)
  | field (off : Nat) (agg : Bool) (k : Nat) (x : Opd)
  | iaddr (es : Nat) (x i : Opd)
  | iaddrA (n es : Nat) (x i : Opd)
  | mkif (t : TypeId) (x : Opd)
  | mkfn (f : Fn) (fs cs : List Opd)
  | ext (x : Opd) (i : Nat)
  | len (x : Opd)
  | app (es by_ : Nat) (s x : Opd)
  | mxmn (mx : Bool) (x : Opd) (xs : List Opd)
  | call (f : Opd) (args : List Opd)
  | pan (x : Opd)
  | mks (es by_ : Nat) (z : Value) (n c : Opd)
  | defer (f : Nat) (args : List Opd)
  | deferF (x : Opd) (args : List Opd)
  | nilcmp (neg : Bool) (x : Opd)
  | tass (t : TypeId) (ok : Bool) (x : Opd)
  | mkmap (sh : Option (List (Option IntKind)) × Option IntKind)
  | look (sh : Option (List (Option IntKind)) × Option IntKind) (z : Value) (ok : Bool) (m k : Opd)
  | mput (sh : Option (List (Option IntKind)) × Option IntKind) (m k v : Opd)
  | ment (sh : Option (List (Option IntKind)) × Option IntKind) (z : Value) (m k : Opd)
  | est (m st v : Opd)
  | mdel (sh : Option (List (Option IntKind)) × Option IntKind) (m k : Opd)
  | mlen (m : Opd)
  | rng (m : Opd)
  | nxt (it : Opd)
  | ent (it : Opd)
  | inv (tbl : List (Nat × Nat)) (x : Opd) (args : List Opd)
  | eqs (neg : Bool) (ks : List (Option IntKind)) (x y : Opd)
  | cpy (es : Nat) (d x : Opd)
  /-- A part of an own row is cleared. -/
  | clr (es : Nat) (z : Value) (x : Opd)
  | slc (arr : Option Nat) (es : Nat) (x : Opd) (lo hi : Option Opd)
  | sidx (bs : List Nat) (i : Opd)
  | aidx (sz : Nat) (agg : Bool) (k : Nat) (x i : Opd)
  deriving Inhabited
inductive Res where
  | no
  | ok (e : E) (σ : List AO)
  | pan (x : T)
  | call (f : Nat) (args : List E)
  | yield (args : List E)
  | need (c : Prop) (r : Res)
  | defer (f : Nat) (args : List E)
  | any (k : Nat → Res)
  | triv
def binV : BinOp → Value → Value → Option Value
  | .add, .int k a, .int k' b => if k = k' then some (.int k (k.wrap (a + b))) else none
  | .sub, .int k a, .int k' b => if k = k' then some (.int k (k.wrap (a - b))) else none
  | .mul, .int k a, .int k' b => if k = k' then some (.int k (k.wrap (a * b))) else none
  | .quo, .int k a, .int k' b => if k = k' then (if b = 0 then none else some (.int k (k.wrap (a.tdiv b)))) else none
  | .rem, .int k a, .int k' b => if k = k' then (if b = 0 then none else some (.int k (a.tmod b))) else none
  | .and, .int k a, .int k' b => if k = k' then some (.int k (bits .and k a b)) else none
  | .or, .int k a, .int k' b => if k = k' then some (.int k (bits .or k a b)) else none
  | .xor, .int k a, .int k' b => if k = k' then some (.int k (bits .xor k a b)) else none
  | .andNot, .int k a, .int k' b => if k = k' then some (.int k (bits .andNot k a b)) else none
  | .eql, .int k a, .int k' b => if k = k' then some (.bool (a == b)) else none
  | .neq, .int k a, .int k' b => if k = k' then some (.bool (a != b)) else none
  | .lss, .int k a, .int k' b => if k = k' then some (.bool (decide (a < b))) else none
  | .leq, .int k a, .int k' b => if k = k' then some (.bool (decide (a ≤ b))) else none
  | .gtr, .int k a, .int k' b => if k = k' then some (.bool (decide (a > b))) else none
  | .geq, .int k a, .int k' b => if k = k' then some (.bool (decide (a ≥ b))) else none
  | .shl, .int k a, .int _ b => if b < 0 then none else some (.int k (k.wrap (a * 2 ^ (min b.toNat k.bits))))
  | .shr, .int k a, .int _ b => if b < 0 then none else some (.int k (a.fdiv (2 ^ (min b.toNat k.bits))))
  | _, _, _ => none
theorem binV_ok {P : Program} {w : World} {op : BinOp} {t : TypeId} {x y : Operand} {a b v : Value} (h : binV op a b = some v) :
    (do eqGuard op t x y a b; binOp op t a b : Sem Value).run P w = .ok v w := by
  cases a with
  | int k m =>
    cases b with
    | int k' n =>
      rw [Sem.run_bind, eqGuard_at_int]
      simp only [Sem.run_pure, Result.andThen_ok]
      cases op <;> simp only [binV] at h
      all_goals (repeat' split at h)
      all_goals (first | (cases h; done) | skip)
      all_goals (cases h; first | (simp_all [binOp, Op.intArith, Op.intBits, Op.intCmp, Op.intDiv, Op.shift, bits]; done) | (simp_all [binOp, Op.shift]; intro _; omega))
    | _ => cases op <;> simp [binV] at h
  | _ => cases op <;> simp [binV] at h
def unV : UnOp → Value → Option Value
  | .not, .bool b => some (.bool !b)
  | .neg, .int k n => some (.int k (k.wrap (0 - n)))
  | .xor, .int k n => some (.int k (bits .xor k (if k.signed then -1 else k.max) n))
  | _, _ => none
theorem unV_ok {P : Program} {w : World} {op : UnOp} {x v : Value} (h : unV op x = some v) : (Op.unary op x).run P w = .ok v w := by
  cases op <;> cases x <;> simp only [unV] at h <;> (try cases h) <;> simp [Op.unary, Op.intArith, Op.intBits, bits]
def zlist (z : List Value) : List E := z.map fun v => .t (.lit v)
def fillE (env : List (Nat × E)) : List (Nat × Nat × Opd) → List E → Option (List E)
  | [], cs => some cs
  | (off, k, x) :: ps, cs => match (x.ev env).cells? with
    | some vs => if vs.length = k ∧ off + k ≤ cs.length then fillE env ps (splice cs off vs) else none
    | none => none
def fillR (env : List (Nat × E)) (es : Nat) : List (Nat × Opd) → List E → Option (List E)
  | [], xs => some xs
  | (i, x) :: ps, xs => match (x.ev env).cells? with
    | some vs => if vs.length = es ∧ i < xs.length then fillR env es ps (xs.set i (x.ev env)) else none
    | none => none
def elts? (σ : List AO) (es : Nat) : E → Option (List E)
  | .t (.slice es' xs) => if es' = es then some (xs.map .t) else none
  | .t (.lit (.slice none 0 0)) => some []
  | .loc id n => match σ[id]? with
    | some (.row es' xs) => if xs.length = n ∧ es' = es then some xs else none
    | _ => none
  | .sub id n es'' lo len => match σ[id]? with
    | some (.row es' xs) => if xs.length = n ∧ es' = es ∧ es'' = es ∧ lo + len ≤ n then some ((xs.drop lo).take len) else none
    | _ => none
  | _ => none
def mx2 (mx : Bool) (x : E) (y : E) : Option E := match x, y with
  | .t (.lit (.int k a)), .t (.lit (.int k' b)) => if k = k' then some (.t (.lit (.int k (if mx then max a b else min a b)))) else none
  | _, _ => none
def mxs (mx : Bool) : E → List E → Option E
  | x, [] => some x
  | x, y :: ys => match mx2 mx x y with | some z => mxs mx z ys | none => none
def callE (f : E) (args : List E) : Res := match f with
  | .t (.fn (.func n) fs cs) => .call n (fs.map .t ++ args ++ cs.map .t)
  | .fn (.func n) fs cs => .call n (fs ++ args ++ cs)
  | .yld => .yield args
  | _ => .no
def ofO (σ : List AO) : Option E → Res
  | some e => .ok e σ
  | none => .no
abbrev Sh := Option (List (Option IntKind)) × Option IntKind
def isWide (P : Program) (t : TypeId) : Bool := match P.underlying t with
  | some (.struct _) | some (.array _ _) => true
  | _ => false
def kfields (P : Program) (rec : TypeId → Option Kinds) : List Field → Nat → Option Kinds
  | [], _ => some []
  | f :: fs, off => if f.name ≠ "_" ∧ f.offset = off then (match rec f.type with
    | some ks => if ks.length = P.cellsOf f.type then (match kfields P rec fs (off + ks.length) with
      | some l => some (ks ++ l)
      | none => none) else none
    | none => none) else none
def kcells (P : Program) : Nat → TypeId → Option Kinds
  | 0, _ => none
  | d + 1, t => match P.underlying t with
    | some (.int k) => some [some k]
    | some .bool => some [none]
    | some (.struct fs) => if P.stoodInHeld t then none else kfields P (kcells P d) fs.toList 0
    | some (.array n e) => match kcells P d e with
      | some ks => if ks.length = P.cellsOf e then some (List.replicate n ks).flatten else none
      | none => none
    | _ => none
def mapSh (P : Program) (kt : TypeId) : Option Sh := match kcells P 20 kt with
  | some ks => if isWide P kt then some (some ks, none) else match ks with
    | [k] => some (none, k)
    | _ => none
  | none => none
def cellKey : Option IntKind → E → Option Int
  | some k, .t (.lit (.int k' n)) => if k = k' then some n else none
  | none, .t (.lit (.bool b)) => some (if b then 1 else 0)
  | _, _ => none
def cellKeys : Kinds → List E → Option (List Int)
  | [], [] => some []
  | k :: ks, c :: cs => match cellKey k c, cellKeys ks cs with
    | some n, some ns => some (n :: ns)
    | _, _ => none
  | _, _ => none
def toKey : Sh → E → Option (List Int)
  | (some ks, _), .t (.agg cs) => cellKeys ks (cs.map .t)
  | (some ks, _), .agg cs => cellKeys ks cs
  | (some _, _), _ => none
  | (none, k), e => match cellKey k e with
    | some n => some [n]
    | none => none
def keyT : Sh → List Int → T
  | (some ks, _), ns => .agg ((kc ks ns).map .lit)
  | (none, k), ns => .lit (keyCell k (ns.headD 0))
def kfind (sh : Sh) (ks : List (Nat × List Int)) (key : List Int) : Option Nat := ks.findIdx? fun e => kEq (shKinds sh) key e.2
def bfind (ks : List (Nat × List Int)) (born : Nat) : Option Nat := ks.findIdx? fun e => e.1 == born
def zeroT : Value → T
  | .agg cs => .agg (cs.toList.map .lit)
  | v => .lit v
def mapOf? (σ : List AO) : E → Option (Sh × List (Nat × List Int) × List T × Nat)
  | .map id => match σ[id]? with
    | some (.map sh ks xs clk) => some (sh, ks, xs, clk)
    | _ => none
  | .t (.map sh ks xs clk) => some (sh, ks, xs, clk)
  | _ => none
def mleft (ks : List (Nat × List Int)) (xs : List T) (seen : List Nat) : List ((Nat × List Int) × T) := (ks.zip xs).filter fun e => !seen.contains e.1.1
def mfind : List (Nat × Nat) → Nat → Option Nat
  | [], _ => none
  | (t, f) :: r, u => if u = t then some f else mfind r u
def bnd (x : Option Opd) (env : List (Nat × E)) (d : Nat) : Option Int := match x with
  | none => some d
  | some x => match x.ev env with
    | .t (.lit (.int .i64 n)) => some n
    | _ => none
def AOp.ex (i : AOp) (env : List (Nat × E)) (σ : List AO) : Res := match i with
  | .mov x => .ok (x.ev env) σ
  | .pick c a b => match c.ev env with
    | .t (.lit (.bool t)) => .ok (if t then a.ev env else b.ev env) σ
    | _ => .no
  | .alloc z => .ok (.ptr σ.length 0) (σ ++ [.cells (zlist z)])
  | .box x => match (x.ev env).cells? with
    | some cs => .ok (.ptr σ.length 0) (σ ++ [.cells cs])
    | none => .no
  | .build z ps => match fillE env ps (zlist z) with
    | some cs => .ok (E.mk cs) σ
    | none => .no
  | .bslice es z sz ps => match fillR env es ps (List.replicate sz (zeroE z)) with
    | some xs => .ok (.loc σ.length sz) (σ ++ [.row es xs])
    | none => .no
  | .load agg k x => ofO σ (load? σ agg k (x.ev env))
  | .store k p x => match store? σ k (p.ev env) (x.ev env) with
    | some σ' => .ok (.t (.lit undef)) σ'
    | none => .no
  | .nilck x => match x.ev env with
    | .ptr a b => .ok (.ptr a b) σ
    | .elt a b c d e => if rowLen σ a = some b then .ok (.elt a b c d e) σ else .no
    | .t (.ptr a b) => .ok (.t (.ptr a b)) σ
    | .vp a b => .ok (.vp a b) σ
    | .fn f fs cs => match f with
      | .func n => .ok (.fn (.func n) fs cs) σ
      | _ => .no
    | .t (.fn (.func n) fs cs) => .ok (.t (.fn (.func n) fs cs)) σ
    | _ => .no
  | .nilckM tbl name x => match x.ev env with
    | .t (.fn (.method nm) (.iface t y :: fs) cs) => if nm = name ∧ (mfind tbl t).isSome = true then .ok (.t (.fn (.method nm) (.iface t y :: fs) cs)) σ else .no
    | .fn (.method nm) (.iface t y :: fs) cs => if nm = name ∧ (mfind tbl t).isSome = true then .ok (.fn (.method nm) (.iface t y :: fs) cs) σ else .no
    | .fn (.method nm) (.t (.iface t y) :: fs) cs => if nm = name ∧ (mfind tbl t).isSome = true then .ok (.fn (.method nm) (.t (.iface t y) :: fs) cs) σ else .no
    | _ => .no
  | .bin op x y => match x.ev env, y.ev env with
    | .t (.lit a), .t (.lit b) => match binV op a b with
      | some v => .ok (.t (.lit v)) σ
      | none => .no
    | _, _ => .no
  | .eqb neg x y => match x.ev env, y.ev env with
    | .t (.lit (.bool a)), .t (.lit (.bool b)) => .ok (.t (.lit (.bool (if neg then !(a == b) else (a == b))))) σ
    | _, _ => .no
  | .un op x => match x.ev env with
    | .t (.lit a) => match unV op a with
      | some v => .ok (.t (.lit v)) σ
      | none => .no
    | _ => .no
  | .conv k x => match x.ev env with
    | .t (.lit (.int _ n)) => .ok (.t (.lit (.int k (k.wrap n)))) σ
    | _ => .no
  | .faddr off x => match x.ev env with
    | .ptr id o => .ok (.ptr id (o + off)) σ
    | .elt id n es i o => if rowLen σ id = some n then .ok (.elt id n es i (o + off)) σ else .no
    | .t (.ptr x o) => .ok (.t (.ptr x (o + off))) σ
    | .vp cs o => .ok (.vp cs (o + off)) σ
    | _ => .no
  | .box0 t x => match (x.ev env).cells? with
    | some [] => .ok (.ptr σ.length 0) (σ ++ [.raw (.cells #[] t (0, 0))])
    | _ => .no
  | .faddr0 t x => match x.ev env with
    | .ptr id 0 => match σ[id]? with
      | some (.raw (.cells ⟨[]⟩ t' (0, 0))) => if t' = t then .ok (.ptr id 0) σ else .no
      | _ => .no
    | _ => .no
  | .load0 x => match x.ev env with
    | .ptr _ _ => .ok (.t (.agg [])) σ
    | _ => .no
  | .field off agg k x => match x.ev env with
    | .t (.agg cs) => ofO σ ((rdT agg k cs off).map .t)
    | .agg cs => ofO σ (rd agg k cs off)
    | _ => .no
  | .iaddr es x i => match x.ev env, i.ev env with
    | .t (.slice es' xs), .t (.lit (.int _ n)) => if es' = es ∧ 0 ≤ n then (match xs[n.toNat]? with
      | some x => .ok (.t (.ptr x 0)) σ
      | none => .no) else .no
    | .loc id m, .t (.lit (.int _ n)) => match σ[id]? with
      | some (.row es' xs) => if xs.length = m ∧ es' = es then .need (0 ≤ n ∧ n < m) (.ok (.elt id m es n.toNat 0) σ) else .no
      | _ => .no
    | .sub id m es'' lo ln, .t (.lit (.int _ n)) => match σ[id]? with
      | some (.row es' xs) => if xs.length = m ∧ es' = es ∧ es'' = es then .need (0 ≤ n ∧ n < ln) (.ok (.elt id m es (lo + n.toNat) 0) σ) else .no
      | _ => .no
    | _, _ => .no
  | .iaddrA sz es x i => match x.ev env, i.ev env with
    | .ptr id o, .t (.lit (.int _ n)) => .need (0 ≤ n ∧ n < sz) (.ok (.ptr id (o + n.toNat * es)) σ)
    | .elt id m es' j o, .t (.lit (.int _ n)) => .need (0 ≤ n ∧ n < sz) (if rowLen σ id = some m then .ok (.elt id m es' j (o + n.toNat * es)) σ else .no)
    | .t (.ptr x o), .t (.lit (.int _ n)) => .need (0 ≤ n ∧ n < sz) (.ok (.t (.ptr x (o + n.toNat * es))) σ)
    | .vp cs o, .t (.lit (.int _ n)) => .need (0 ≤ n ∧ n < sz) (.ok (.vp cs (o + n.toNat * es)) σ)
    | _, _ => .no
  | .mkif t x => match x.ev env with
    | .undef => .no
    | e => .ok (E.mkIface t e) σ
  | .mkfn f fs cs => .ok (E.mkFn f (fs.map (·.ev env)) (cs.map (·.ev env))) σ
  | .ext x i => match x.ev env with
    | .tup es => ofO σ es[i]?
    | _ => .no
  | .len x => match x.ev env with
    | .t (.slice _ xs) => .ok (.t (.lit (.int .i64 xs.length))) σ
    | .t (.lit (.slice none 0 0)) => .ok (.t (.lit (.int .i64 0))) σ
    | .loc id n => if rowLen σ id = some n then .ok (.t (.lit (.int .i64 n))) σ else .no
    | .sub id n _ _ ln => if rowLen σ id = some n then .ok (.t (.lit (.int .i64 ln))) σ else .no
    | _ => .no
  | .app es by_ s x => match elts? σ es (x.ev env) with
    | none => .no
    | some ys => match s.ev env with
      | .t (.lit (.slice none 0 0)) => match ys with
        | [] => .ok (.t (.lit (.slice none 0 0))) σ
        | _ => .need (ys.length ≤ maxLen ∧ ys.length * by_ ≤ 140737488355328) (.ok (.loc σ.length ys.length) (σ ++ [.row es ys]))
      | .loc id n => match σ[id]? with
        | some (.row es' xs) => if xs.length = n ∧ es' = es then
            .need (n + ys.length ≤ maxLen ∧ (n + ys.length) * by_ ≤ 140737488355328) (.ok (.loc id (n + ys.length)) (σ.set id (.row es (xs ++ ys)))) else .no
        | _ => .no
      | .sub id n es'' lo ln => match σ[id]? with
        | some (.row es' xs) => if xs.length = n ∧ es' = es ∧ es'' = es ∧ lo = 0 then
            .need (0 < n ∧ ln + ys.length ≤ n) (.ok (.loc σ.length (ln + ys.length)) (σ.set id (.row 0 (List.replicate (n + 1) .undef)) ++ [.row es (xs.take ln ++ ys)])) else .no
        | _ => .no
      | _ => .no
  | .mxmn mx x xs => ofO σ (mxs mx (x.ev env) (xs.map (·.ev env)))
  | .call f args => callE (f.ev env) (args.map (·.ev env))
  | .pan x => match x.ev env with
    | .t (.iface t x) => .pan (.iface t x)
    | _ => .no
  | .mks es by_ z n c => match n.ev env, c.ev env with
    | .t (.lit (.int .i64 n)), .t (.lit (.int .i64 c)) => .need (0 ≤ n ∧ n ≤ c ∧ c ≤ 2 ^ 40 ∧ c * by_ ≤ 281474976710656) (.ok (.loc σ.length n.toNat) (σ ++ [.row es (List.replicate n.toNat (zeroE z))]))
    | _, _ => .no
  | .defer f args => .defer f (args.map (·.ev env))
  | .deferF x args => match callE (x.ev env) (args.map (·.ev env)) with
    | .call f as => .defer f as
    | _ => .no
  | .nilcmp neg x => match x.ev env with
    | .t (.iface _ _) => .ok (.t (.lit (.bool neg))) σ
    | .t (.lit .nilIface) => .ok (.t (.lit (.bool !neg))) σ
    | _ => .no
  | .tass t ok x => match x.ev env with
    | .t (.iface t' y) => if t' = t then .ok (if ok then .tup [.t y, .t (.lit (.bool true))] else .t y) σ else .no
    | _ => .no
  | .mkmap sh => .ok (.map σ.length) (σ ++ [.map sh [] [] 0])
  | .look sh z ok m k => match mapOf? σ (m.ev env), toKey sh (k.ev env) with
    | some (sh', ks, xs, _), some key => if sh' = sh then (match kfind sh ks key with
      | some i => (match xs[i]? with
        | some x => .ok (if ok then .tup [.t x, .t (.lit (.bool true))] else .t x) σ
        | none => .no)
      | none => .ok (if ok then .tup [.t (zeroT z), .t (.lit (.bool false))] else .t (zeroT z)) σ) else .no
    | _, _ => .no
  | .mput sh m k v => match m.ev env, toKey sh (k.ev env), v.ev env with
    | .map id, some key, .t x => match σ[id]? with
      | some (.map sh' ks xs clk) => if sh' = sh then (match kfind sh ks key with
        | some i => .ok (.t (.lit undef)) (σ.set id (.map sh ks (xs.set i x) clk))
        | none => .ok (.t (.lit undef)) (σ.set id (.map sh (ks ++ [(clk, key)]) (xs ++ [x]) (clk + 1)))) else .no
      | _ => .no
    | _, _, _ => .no
  | .ment sh z m k => match m.ev env, toKey sh (k.ev env) with
    | .map id, some key => match σ[id]? with
      | some (.map sh' ks xs clk) => if sh' = sh then (match kfind sh ks key with
        | some i => (match xs[i]?, ks[i]? with
          | some x, some b => .ok (.tup [.t x, .t (.lit (.int .i64 b.1))]) σ
          | _, _ => .no)
        | none => .ok (.tup [.t (zeroT z), .t (.lit (.int .i64 clk))]) (σ.set id (.map sh (ks ++ [(clk, key)]) (xs ++ [zeroT z]) (clk + 1)))) else .no
      | _ => .no
    | _, _ => .no
  | .est m st v => match m.ev env, st.ev env, v.ev env with
    | .map id, .t (.lit (.int .i64 n)), .t x => match σ[id]? with
      | some (.map sh ks xs clk) => if 0 ≤ n then (match bfind ks n.toNat with
        | some i => .ok (.t (.lit undef)) (σ.set id (.map sh ks (xs.set i x) clk))
        | none => .no) else .no
      | _ => .no
    | _, _, _ => .no
  | .mdel sh m k => match m.ev env, toKey sh (k.ev env) with
    | .map id, some key => match σ[id]? with
      | some (.map sh' ks xs clk) => if sh' = sh then (match kfind sh ks key with
        | some i => .ok (.t (.lit undef)) (σ.set id (.map sh (ks.eraseIdx i) (xs.eraseIdx i) clk))
        | none => .ok (.t (.lit undef)) σ) else .no
      | _ => .no
    | _, _ => .no
  | .mlen m => match mapOf? σ (m.ev env) with
    | some (_, _, xs, _) => .ok (.t (.lit (.int .i64 xs.length))) σ
    | none => match m.ev env with
      | .t (.lit (.map none)) => .ok (.t (.lit (.int .i64 0))) σ
      | _ => .no
  | .rng m => match mapOf? σ (m.ev env) with
    | some (_, _, _, clk) => .ok (.iter σ.length) (σ ++ [.iter (m.ev env) clk [] clk])
    | none => .no
  | .nxt it => match it.ev env with
    | .iter id => match σ[id]? with
      | some (.iter m since seen last) => match mapOf? σ m with
        | some (sh, ks, xs, clk) => .need ((∀ e ∈ ks, e.1 < since) ∧ since ≤ last) (if mleft ks xs seen = [] then .ok (.tup [.t (.lit (.bool false))]) σ else
          .any fun i => match (mleft ks xs seen)[i]? with
            | some ((born, key), x) => .ok (.tup [.t (.lit (.bool true)), .t (keyT sh key), .t x]) (σ.set id (.iter m since (seen ++ [born]) clk))
            | none => .triv)
        | none => .no
      | _ => .no
    | _ => .no
  | .ent it => match it.ev env with
    | .iter id => match σ[id]? with
      | some (.iter m _ seen last) => match mapOf? σ m with
        | some (sh, ks, xs, clk) => match seen.getLast? with
          | some born => .need (clk = last ∧ (ks.map (·.1)).Nodup) (match (ks.zip xs).find? fun e => e.1.1 == born with
            | some ((_, key), x) => .ok (.tup [.t (keyT sh key), .t x]) σ
            | none => .no)
          | none => .no
        | none => .no
      | _ => .no
    | _ => .no
  | .inv tbl x args => match x.ev env with
    | .t (.iface t y) => match mfind tbl t with
      | some f => .call f (.t y :: args.map (·.ev env))
      | none => .no
    | .iface t y => match mfind tbl t with
      | some f => .call f (y :: args.map (·.ev env))
      | none => .no
    | _ => .no
  | .eqs neg ks x y => match toKey (some ks, none) (x.ev env), toKey (some ks, none) (y.ev env) with
    | some a, some b => .ok (.t (.lit (.bool (if neg then !(kEq ks a b) else kEq ks a b)))) σ
    | _, _ => .no
  | .cpy es d x => match elts? σ es (x.ev env) with
    | none => .no
    | some ys => match d.ev env with
      | .loc id n => match σ[id]? with
        | some (.row es' xs) => if xs.length = n ∧ es' = es then (if n < ys.length then .ok (.t (.lit (.int .i64 n))) (σ.set id (.row es (ys.take n))) else .need (ys.length ≤ n) (.ok (.t (.lit (.int .i64 ys.length))) (σ.set id (.row es (ys ++ xs.drop ys.length))))) else .no
        | _ => .no
      | _ => .no
  | .clr es z x => match x.ev env with
    | .sub id n es'' lo ln => match σ[id]? with
      | some (.row es' xs) => if xs.length = n ∧ es' = es ∧ es'' = es ∧ lo + ln ≤ n then .ok (.tup []) (σ.set id (.row es (xs.take lo ++ List.replicate ln (zeroE z) ++ xs.drop (lo + ln)))) else .no
      | _ => .no
    | _ => .no
  | .slc arr es x lo hi => match bnd lo env 0 with
    | none => .no
    | some l => match arr, x.ev env with
      | some n, .t (.ptr (.agg cs) off) => match bnd hi env n with
        | some h => if es = 1 then .need (0 ≤ l ∧ l ≤ h ∧ h ≤ n ∧ off + n ≤ cs.length) (.ok (.t (.slice 1 ((cs.drop (off + l.toNat)).take (h.toNat - l.toNat)))) σ) else .no
        | none => .no
      | none, .t (.slice es' xs) => match bnd hi env xs.length with
        | some h => if es' = es then .need (0 ≤ l ∧ l ≤ h ∧ h ≤ xs.length) (.ok (.t (.slice es ((xs.drop l.toNat).take (h.toNat - l.toNat)))) σ) else .no
        | none => .no
      | none, .loc id m => match bnd hi env m with
        | some h => if rowLen σ id = some m then .need (0 ≤ l ∧ l ≤ h ∧ h ≤ m) (.ok (.sub id m es l.toNat (h.toNat - l.toNat)) σ) else .no
        | none => .no
      | _, _ => .no
  | .sidx bs i => match i.ev env with
    | .t (.lit (.int _ n)) => match bs[n.toNat]? with
      | some b => .need (0 ≤ n) (.ok (.t (.lit (.int .u8 b))) σ)
      | none => .no
    | _ => .no
  | .aidx sz agg k x i => match x.ev env, i.ev env with
    | .t (.agg cs), .t (.lit (.int _ n)) => .need (0 ≤ n ∧ n < sz) (ofO σ ((rdT agg k cs (n.toNat * k)).map .t))
    | .agg cs, .t (.lit (.int _ n)) => .need (0 ≤ n ∧ n < sz) (ofO σ (rd agg k cs (n.toNat * k)))
    | _, _ => .no
end Go.Ab
namespace Go.Ab
def Opd.ofC : Value → Opd
  | .agg cs => if cs.toList.all (·.oneCell') then .tr (.agg (cs.toList.map .lit)) else .lit (.agg cs)
  | v => .lit v
theorem Opd.ofC_ev (v : Value) (env : List (Nat × E)) : (Opd.ofC v).ev env = .t (T.ofV v) := by
  cases v with
  | agg cs => unfold Opd.ofC T.ofV; simp only; split <;> rfl
  | _ => rfl
theorem Opd.ofC_lit {v w : Value} (h : Opd.ofC v = .lit w) : v = w := by
  cases v with
  | agg cs =>
    unfold Opd.ofC at h
    simp only at h
    split at h
    · cases h
    · cases h; rfl
  | _ => cases h; rfl
def cOpd (P : Program) : Operand → Option Opd
  | .tmp t => some (.tmp t)
  | .const v => some (.ofC v)
  | .func f => some (.fn f)
  | .global g => (globT P g).map fun x => .tr (.ptr x 0)
def cOpds (P : Program) : List Operand → Option (List Opd)
  | [] => some []
  | x :: xs => match cOpd P x, cOpds P xs with
    | some y, some ys => some (y :: ys)
    | _, _ => none
def zOf (P : Program) (t : TypeId) : Option (List Value) :=
  match P.info? t with
  | some i => match i.zero with
    | some z => if z.cells.toList.all (·.oneCell') then some z.cells.toList else none
    | none => none
  | none => none
def zV (P : Program) (t : TypeId) : Option Value :=
  match P.info? t with
  | some i => match i.zero with
    | some z => if z.cells.toList.all (·.oneCell') && z.cells.size == i.size then some z else none
    | none => none
  | none => none
def cParts (P : Program) (place : Nat → Option (Nat × Nat)) : List (Nat × Operand) → Option (List (Nat × Nat × Opd))
  | [] => some []
  | (i, x) :: ps => match place i, cOpd P x, cParts P place ps with
    | some (off, k), some y, some ys => some ((off, k, y) :: ys)
    | _, _, _ => none
def cPartsR (P : Program) : List (Nat × Operand) → Option (List (Nat × Opd))
  | [] => some []
  | (i, x) :: ps => match cOpd P x, cPartsR P ps with
    | some y, some ys => some ((i, y) :: ys)
    | _, _ => none
def fieldAtI (P : Program) (s : TypeId) (f : Nat) : Option (Nat × Bool × Nat) :=
  match P.underlying s with
  | some (.struct fs) => match fs[f]? with
    | some fd => match tyI P fd.type with
      | some (ag, k) => some (fd.offset, ag, k)
      | none => none
    | none => none
  | _ => none
def fieldByte (P : Program) (s : TypeId) (f : Nat) : Option Nat := match P.underlying s with
  | some (.struct fs) => (fs[f]?).map (·.byteOffset)
  | _ => none
def isBoolT (P : Program) (t : TypeId) : Bool := match P.underlying t with | some .bool => true | _ => false
def mrow (P : Program) (name : String) (t : Nat) : Option Nat := match P.info? t, P.underlying t with
  | some i, some (.pointer _) => match i.methods.find? (·.name == name) with
    | some m => if m.path.isEmpty then (match m.func with
      | some (f, true) => some f
      | _ => none) else none
    | none => none
  | some i, some _ => match i.methods.find? (·.name == name) with
    | some m => if m.path.isEmpty then (match m.func with
      | some (f, false) => some f
      | _ => none) else none
    | none => none
  | _, _ => none
def mtbl (P : Program) (name : String) : List (Nat × Nat) := (List.range P.types.size).filterMap fun t => (mrow P name t).map (t, ·)
def compCall (P : Program) (c : Call) : Option AOp := match c.callee with
  | .value f => match cOpd P f, cOpds P c.args.toList with
    | some f, some as => some (.call f as)
    | _, _ => none
  | .invoke x name => match cOpd P x, cOpds P c.args.toList with
    | some x, some as => some (.inv (mtbl P name) x as)
    | _, _ => none
  | .builtin .len => match c.args.toList, c.argTypes.toList with
    | [x], t :: _ => match P.underlying t with
      | some (.slice _) => (cOpd P x).map .len
      | some (.map _ _) => (cOpd P x).map .mlen
      | _ => none
    | _, _ => none
  | .builtin .append => match c.args.toList, c.argTypes.toList with
    | [s, x], [t, u] => match P.underlying t, P.underlying u with
      | some (.slice e), some (.slice e') => match tyI P e, (P.info? e).map (·.bytes), zV P e, cOpd P s, cOpd P x with
        | some (_, k), some by_, some _, some s, some x => if 0 < k ∧ t = u ∧ e = e' then some (.app k by_ s x) else none
        | _, _, _, _, _ => none
      | _, _ => none
    | _, _ => none
  | .builtin .delete => match c.args.toList, c.argTypes.toList with
    | [m, k], t :: _ => match P.underlying t with
      | some (.map kt _) => match mapSh P kt, cOpd P m, cOpd P k with
        | some sh, some m, some k => some (.mdel sh m k)
        | _, _, _ => none
      | _ => none
    | _, _ => none
  | .builtin .copy => match c.args.toList, c.argTypes.toList with
    | [d, x], [t, u] => match P.underlying t with
      | some (.slice e) => match tyI P e, cOpd P d, cOpd P x with
        | some (_, k), some d, some x => if 0 < k then some (.cpy k d x) else none
        | _, _, _ => none
      | _ => none
    | _, _ => none
  | .builtin .clear => match c.args.toList, c.argTypes.toList with
    | [x], [t] => match P.underlying t with
      | some (.slice e) => match tyI P e, zV P e, cOpd P x with
        | some (_, k), some z, some x => if 0 < k then some (.clr k z x) else none
        | _, _, _ => none
      | _ => none
    | _, _ => none
  | .builtin .max => match cOpds P c.args.toList with
    | some (x :: xs) => some (.mxmn true x xs)
    | _ => none
  | .builtin .min => match cOpds P c.args.toList with
    | some (x :: xs) => some (.mxmn false x xs)
    | _ => none
  | _ => none
def cOpt (P : Program) : Option Operand → Option (Option Opd)
  | none => some none
  | some x => (cOpd P x).map some
def isIfT (P : Program) (t : TypeId) : Bool := match P.underlying t with
  | some (.interface _) => true
  | _ => false
def compOp (P : Program) (o : Oper) : Option AOp := match o.op with
  | .move x => (cOpd P x).map .mov
  | .assign x => (cOpd P x).map .mov
  | .pick c a b => match cOpd P c, cOpd P a, cOpd P b with
    | some c, some a, some b => some (.pick c a b)
    | _, _, _ => none
  | .alloc t => (zOf P t).map .alloc
  | .box t x => if P.cellsOf t = 0 then (cOpd P x).map (.box0 t) else (cOpd P x).map .box
  | .build t ps => match P.underlying t, zOf P t with
    | some (.struct fs), some z => match fs.toList.mapM (fun f => (P.info? f.type).map fun i => (f.offset, i.size)) with
      | some places => (cParts P (places.toArray[·]?) ps.toList).map (.build z)
      | none => none
    | some (.array _ e), some z => match P.info? e with
      | some j => (cParts P (fun i => some (i * j.size, j.size)) ps.toList).map (.build z)
      | none => none
    | _, _ => none
  | .buildSlice t n ps => match P.underlying t with
    | some (.slice e) => match tyI P e, zV P e, cPartsR P ps.toList with
      | some (_, k), some z, some ps => if n * k ≤ 2 ^ 24 ∧ 0 < k then some (.bslice k z n ps) else none
      | _, _, _ => none
    | _ => none
  | .load t x => match tyI P t, cOpd P x with
    | some (ag, k), some x => some (if ag = true ∧ k = 0 then .load0 x else .load ag k x)
    | _, _ => none
  | .store t p x => match tyI P t, cOpd P p, cOpd P x with
    | some (_, k), some p, some x => some (.store k p x)
    | _, _, _ => none
  | .nilCheck x => (cOpd P x).map .nilck
  | .binOp op t x y _ => match cOpd P x, cOpd P y with
    | some x, some (.lit .nilIface) => if isIfT P t then (match op with
        | .eql => some (.nilcmp false x)
        | .neq => some (.nilcmp true x)
        | _ => none) else none
    | some x, some y => if isBoolT P t then (match op with
        | .eql => some (.eqb false x y)
        | .neq => some (.eqb true x y)
        | _ => none) else if isWide P t && !P.eqGuardType P.depth t then (match kcells P 20 t, op with
        | some ks, .eql => some (.eqs false ks x y)
        | some ks, .neq => some (.eqs true ks x y)
        | _, _ => none) else some (.bin op x y)
    | _, _ => none
  | .unOp op _ x => (cOpd P x).map (.un op)
  | .convert s d x => match P.underlying s, P.underlying d with
    | some (.int _), some (.int k) => (cOpd P x).map (.conv k)
    | _, _ => none
  | .fieldAddr s x f => match fieldAtI P s f, cOpd P x with
    | some (off, _, k), some x => if k = 0 then (if off = 0 ∧ fieldByte P s f = some 0 ∧ P.cellsOf s = 0 then some (.faddr0 s x) else none) else some (.faddr off x)
    | _, _ => none
  | .field s x f => match fieldAtI P s f, cOpd P x with
    | some (off, ag, k), some x => some (.field off ag k x)
    | _, _ => none
  | .indexAddr t x i => match P.underlying t, cOpd P x, cOpd P i with
    | some (.slice e), some x, some i => match tyI P e with
      | some (_, k) => some (.iaddr k x i)
      | none => none
    | some (.array n e), some x, some i => match tyI P e with
      | some (_, k) => some (.iaddrA n k x i)
      | none => none
    | _, _, _ => none
  | .makeInterface t x => match P.underlying t, cOpd P x with
    | some (.interface _), _ => none
    | some _, some x => some (.mkif t x)
    | _, _ => none
  | .makeFunc fn fs cs => match cOpds P fs.toList, cOpds P cs.toList with
    | some fs, some cs => some (.mkfn fn fs cs)
    | _, _ => none
  | .makeSlice t n c => match P.underlying t, cOpd P n, cOpd P c with
    | some (.slice e), some n, some c => match tyI P e, (P.info? e).map (·.bytes), zV P e with
      | some (_, k), some by_, some z => if 0 < k then some (.mks k by_ z n c) else none
      | _, _, _ => none
    | _, _, _ => none
  | .extract x i => (cOpd P x).map (.ext · i)
  | .panic x => (cOpd P x).map .pan
  | .call c => compCall P c
  | .typeAssert x _ t ok => match P.underlying t, cOpd P x with
    | some (.interface _), _ => none
    | some _, some x => some (.tass t ok x)
    | _, _ => none
  | .makeMap t none => match P.underlying t with
    | some (.map kt _) => (mapSh P kt).map .mkmap
    | _ => none
  | .lookup t m k ok => match P.underlying t with
    | some (.map kt e) => match mapSh P kt, zV P e, cOpd P m, cOpd P k with
      | some sh, some z, some m, some k => some (.look sh z ok m k)
      | _, _, _, _ => none
    | _ => none
  | .mapUpdate t m k v | .insert t m k v => match P.underlying t with
    | some (.map kt _) => match mapSh P kt, cOpd P m, cOpd P k, cOpd P v with
      | some sh, some m, some k, some v => some (.mput sh m k v)
      | _, _, _, _ => none
    | _ => none
  | .mapEntry t m k => match P.underlying t with
    | some (.map kt e) => match mapSh P kt, zV P e, cOpd P m, cOpd P k with
      | some sh, some z, some m, some k => some (.ment sh z m k)
      | _, _, _, _ => none
    | _ => none
  | .entryStore _ m st v => match cOpd P m, cOpd P st, cOpd P v with
    | some m, some st, some v => some (.est m st v)
    | _, _, _ => none
  | .range t m => match P.underlying t with
    | some (.map _ _) => (cOpd P m).map .rng
    | _ => none
  | .next it false => (cOpd P it).map .nxt
  | .entry it => (cOpd P it).map .ent
  | .defer c => match c.callee with
    | .value (.func f) => (cOpds P c.args.toList).map (.defer f)
    | .value f => match cOpd P f, cOpds P c.args.toList with
      | some f, some xs => some (.deferF f xs)
      | _, _ => none
    | _ => none
  | .slice t x lo hi none => match P.underlying t, cOpd P x, cOpt P lo, cOpt P hi with
    | some (.slice e), some x, some lo, some hi => match tyI P e with
      | some (_, k) => some (.slc none k x lo hi)
      | none => none
    | some (.array n e), some x, some lo, some hi => match tyI P e with
      | some (_, k) => some (.slc (some n) k x lo hi)
      | none => none
    | _, _, _, _ => none
  | .index t (.const (.string s)) i => match P.underlying t, cOpd P i with
    | some .string, some i => some (.sidx (s.data.toList.map (·.toNat)) i)
    | _, _ => none
  | .index t x i => match P.underlying t, cOpd P x, cOpd P i with
    | some (.array n e), some x, some i => match tyI P e with
      | some (ag, k) => some (.aidx n ag k x i)
      | none => none
    | _, _, _ => none
  | _ => none
def methName (ops : Array Oper) : Operand → Option String
  | .tmp t => ops.toList.findSome? fun o => if o.dst = some t then (match o.op with
    | .makeFunc (.method name) _ _ => some name
    | _ => none) else none
  | _ => none
def compOpX (P : Program) (ops : Array Oper) (o : Oper) : Option AOp := match o.op with
  | .nilCheck x => match methName ops x with
    | some name => (cOpd P x).map (.nilckM (mtbl P name) name)
    | none => compOp P o
  | _ => compOp P o
def Plain (P : Program) (f : Nat) : Prop := ∃ fn, P.funcs[f]? = some fn ∧ fn.body.isSome = true ∧ (fn.name == "runtime.NumGoroutine") = false
section
variable {C : Cx} {s : St} {a : Act} {w : World} {ι : Pl} {vis D : Nat → Prop}
def Gives (C : Cx) (s : St) (o : Oper) (a : Act) (w : World) (ι : Pl) (vis D : Nat → Prop) (e : E) (σ' : List AO) : Prop :=
  ∃ v w' ι', ((execOp a.eval o).run C.P w = .ok (.value v) w' ∨ ((execOp a.eval o).run C.P w = .ok .skip w' ∧ v = undef)) ∧
    InvX C { s with σ := σ' } a w' ι' vis D ∧ Up ι s.σ vis w ι' σ' vis w' ∧ RepE C.yl ι' σ' (hp vis w') e v
def ResOK (C : Cx) (s : St) (o : Oper) (a : Act) (w : World) (ι : Pl) (vis D : Nat → Prop) : Res → Prop
  | .no => True
  | .ok e σ' => Gives C s o a w ι vis D e σ'
  | .pan x => ∃ v, (execOp a.eval o).run C.P w = .halt (.panic v) w ∧ RepT (hp vis w) x v
  | .call f args => ∃ vs : List Value, RepEs C.yl ι s.σ (hp vis w) args vs ∧ (Plain C.P f → (execOp a.eval o).run C.P w = .ok (.enter f vs.toArray) w)
  | .yield args => ∃ vs : List Value, RepEs C.yl ι s.σ (hp vis w) args vs ∧ (execOp a.eval o).run C.P w = (Instr.yield C.yl vs.toArray).run C.P w
  | .need c r => c → ResOK C s o a w ι vis D r
  | .defer f args => (∃ c, o.op = .defer c) ∧ ∃ vs cs : List Value, RepEs C.yl ι s.σ (hp vis w) args (vs ++ cs) ∧ (execOp a.eval o).run C.P w = .ok (.defer { target := .fn (.func f) cs.toArray, args := vs.toArray }) w
  | .any k => ∃ i, ResOK C s o a w ι vis D (k i)
  | .triv => False
theorem ev_ok (X : InvX C s a w ι vis D) {x : Operand} {y : Opd} (h : cOpd C.P x = some y) : RepE C.yl ι s.σ (hp vis w) (y.ev s.env) (a.eval x) := by
  cases x with
  | tmp t =>
    simp only [cOpd] at h
    cases h
    exact X.env t
  | const v =>
    simp only [cOpd] at h
    cases h
    simp only [Opd.ofC_ev, Act.eval]
    unfold RepE
    exact T.ofV_rep v
  | func f =>
    simp only [cOpd] at h
    cases h
    simp only [Opd.ev, Act.eval]
    unfold RepE RepT
    exact ⟨[], [], rfl, by unfold RepTs; rfl, by unfold RepTs; rfl⟩
  | global g =>
    simp only [cOpd] at h
    obtain ⟨x, hx, rfl⟩ := Option.map_eq_some_iff.1 h
    simp only [Opd.ev, Act.eval]
    unfold RepE
    exact X.mem.glob g x hx
theorem evs_ok (X : InvX C s a w ι vis D) : ∀ {xs : List Operand} {ys : List Opd} (_ : cOpds C.P xs = some ys), RepEs C.yl ι s.σ (hp vis w) (ys.map (·.ev s.env)) (xs.map a.eval)
  | [], ys, h => by
    simp only [cOpds] at h
    cases h
    simp only [List.map_nil]
    unfold RepEs
    rfl
  | x :: xs, ys, h => by
    simp only [cOpds] at h
    split at h
    · rename_i y ys' h1 h2
      cases h
      simp only [List.map_cons]
      unfold RepEs
      exact ⟨_, _, rfl, ev_ok X h1, evs_ok X h2⟩
    · cases h
theorem gives_pure (X : InvX C s a w ι vis D) {o : Oper} {e : E} {v : Value} (hr : (execOp a.eval o).run C.P w = .ok (.value v) w) (r : RepE C.yl ι s.σ (hp vis w) e v) : Gives C s o a w ι vis D e s.σ :=
  ⟨v, w, ι, .inl hr, X, Up.refl _ _ _ _, r⟩
theorem zOf_spec {P : Program} {t : TypeId} {z : List Value} (h : zOf P t = some z) : ∃ i v, P.info? t = some i ∧ i.zero = some v ∧ v.cells.toList = z ∧ ∀ u ∈ z, One u := by
  unfold zOf at h
  split at h
  · rename_i i hi
    split at h
    · rename_i v hv
      split at h
      · rename_i ho
        cases h
        exact ⟨i, v, hi, hv, rfl, fun u hu => List.all_eq_true.1 ho u hu⟩
      · cases h
    · cases h
  · cases h
theorem zlist_rep {yl : Nat} {σ : List AO} {h : Hp} : ∀ (z : List Value), RepEs yl ι σ h (zlist z) z
  | [] => by unfold zlist RepEs; rfl
  | v :: z => by
    unfold zlist
    simp only [List.map_cons]
    unfold RepEs
    exact ⟨v, z, rfl, by unfold RepE RepT; rfl, zlist_rep z⟩
theorem new_cells (X : InvX C s a w ι vis D) {cs : List E} {us : List Value} (ty : TypeId) (r : RepEs C.yl ι s.σ (hp vis w) cs us) (o1 : ∀ u ∈ us, One u) :
    ∃ ι', InvX C { s with σ := s.σ ++ [.cells cs] } a (w.alloc (.cells us.toArray ty)) ι' vis D ∧ Up ι s.σ vis w ι' (s.σ ++ [.cells cs]) vis (w.alloc (.cells us.toArray ty)) ∧
      RepE C.yl ι' (s.σ ++ [.cells cs]) (hp vis (w.alloc (.cells us.toArray ty))) (.ptr s.σ.length 0) (.pointer (some ⟨w.heap.size, 0, none⟩)) := by
  let ι' : Pl := fun i => if i = s.σ.length then some (w.heap.size, 0) else if i < s.σ.length then ι i else none
  have hn : ι' s.σ.length = some (w.heap.size, 0) := by simp [ι']
  have st := Step.alloc w (.cells us.toArray ty)
  have hle := hp_step st (vis := vis) fun b hb => ⟨X.mem.visLt b hb, by simp⟩
  have hoth : ∀ j, j < s.σ.length → ι' j = ι j := fun j hj => by simp [ι', Nat.ne_of_lt hj, hj]
  have g : Goes ι s.σ ι' (s.σ ++ [.cells cs]) := ⟨by simp, fun id hid hl => ⟨by unfold rowLen at *; rw [List.getElem?_append_left hid]; exact hl, hoth id hid⟩,
    fun id n hid hl => ⟨n, by unfold rowLen at *; rw [List.getElem?_append_left hid]; exact hl, Nat.le_refl _, fun _ => hoth id hid⟩⟩
  obtain ⟨M, _⟩ := X.mem.push (ι' := ι') (.cells cs) st hoth (fun j hj => by simp only [ι']; rw [if_neg (by omega), if_neg (by omega)]) (fun b c h => by rw [hn] at h; cases h; exact ⟨Nat.le_refl _, by simp⟩)
    (by rw [hn]; exact ⟨_, heap_alloc_new w _, us, ty, rfl, r.mono g hle, o1⟩)
  refine ⟨ι', X.go M g hle, Up.of g hle st.size (fun i b c h => ?_), ?_⟩
  · by_cases hi : i = s.σ.length
    · subst hi; rw [hn] at h; cases h; exact .inr (Nat.le_refl _)
    · by_cases hi' : i < s.σ.length
      · rw [hoth i hi'] at h; exact .inl ⟨i, c, h⟩
      · simp [ι', hi, hi'] at h
  unfold RepE
  exact ⟨by simp, by simp [rowLen, AO.len?], _, _, hn, rfl⟩
theorem new_raw (X : InvX C s a w ι vis D) (ob : Go.Obj) :
    ∃ ι', InvX C { s with σ := s.σ ++ [.raw ob] } a (w.alloc ob) ι' vis D ∧ Up ι s.σ vis w ι' (s.σ ++ [.raw ob]) vis (w.alloc ob) ∧
      RepE C.yl ι' (s.σ ++ [.raw ob]) (hp vis (w.alloc ob)) (.ptr s.σ.length 0) (.pointer (some ⟨w.heap.size, 0, none⟩)) := by
  let ι' : Pl := fun i => if i = s.σ.length then some (w.heap.size, 0) else if i < s.σ.length then ι i else none
  have hn : ι' s.σ.length = some (w.heap.size, 0) := by simp [ι']
  have st := Step.alloc w ob
  have hle := hp_step st (vis := vis) fun b hb => ⟨X.mem.visLt b hb, by simp⟩
  have hoth : ∀ j, j < s.σ.length → ι' j = ι j := fun j hj => by simp [ι', Nat.ne_of_lt hj, hj]
  have g : Goes ι s.σ ι' (s.σ ++ [.raw ob]) := ⟨by simp, fun id hid hl => ⟨by unfold rowLen at *; rw [List.getElem?_append_left hid]; exact hl, hoth id hid⟩,
    fun id n hid hl => ⟨n, by unfold rowLen at *; rw [List.getElem?_append_left hid]; exact hl, Nat.le_refl _, fun _ => hoth id hid⟩⟩
  obtain ⟨M, _⟩ := X.mem.push (ι' := ι') (.raw ob) st hoth (fun j hj => by simp only [ι']; rw [if_neg (by omega), if_neg (by omega)]) (fun b c h => by rw [hn] at h; cases h; exact ⟨Nat.le_refl _, by simp⟩)
    (by rw [hn]; exact ⟨_, heap_alloc_new w _, rfl⟩)
  refine ⟨ι', X.go M g hle, Up.of g hle st.size (fun i b c h => ?_), ?_⟩
  · by_cases hi : i = s.σ.length
    · subst hi; rw [hn] at h; cases h; exact .inr (Nat.le_refl _)
    · by_cases hi' : i < s.σ.length
      · rw [hoth i hi'] at h; exact .inl ⟨i, c, h⟩
      · simp [ι', hi, hi'] at h
  unfold RepE
  exact ⟨by simp, by simp [rowLen, AO.len?], _, _, hn, rfl⟩
theorem op_mov (X : InvX C s a w ι vis D) {o : Oper} {x : Operand} {y : Opd} (ho : o.op = .move x ∨ o.op = .assign x) (h : cOpd C.P x = some y) : ResOK C s o a w ι vis D ((AOp.mov y).ex s.env s.σ) :=
  gives_pure X (by rcases ho with ho | ho <;> (unfold execOp; simp only [ho]; rfl)) (ev_ok X h)
theorem op_alloc (X : InvX C s a w ι vis D) {o : Oper} {t : TypeId} {z : List Value} (ho : o.op = .alloc t) (h : zOf C.P t = some z) : ResOK C s o a w ι vis D ((AOp.alloc z).ex s.env s.σ) := by
  obtain ⟨i, v, hi, hz, rfl, o1⟩ := zOf_spec h
  obtain ⟨ι', X', u, r⟩ := new_cells X t (zlist_rep v.cells.toList) o1
  refine ⟨_, _, ι', .inl ?_, X', u, r⟩
  unfold execOp
  simp only [ho]
  simp [Instr.alloc, zeroValue, typeInfo, hi, hz, newVar, newRow]
theorem op_box (X : InvX C s a w ι vis D) {o : Oper} {t : TypeId} {x : Operand} {y : Opd} (ho : o.op = .box t x) (h : cOpd C.P x = some y) : ResOK C s o a w ι vis D ((AOp.box y).ex s.env s.σ) := by
  simp only [AOp.ex]
  split
  · rename_i cs hcs
    obtain ⟨r, o1⟩ := (ev_ok X h).cells hcs
    obtain ⟨ι', X', u, r'⟩ := new_cells X t r o1
    refine ⟨_, _, ι', .inl ?_, X', u, r'⟩
    unfold execOp
    simp only [ho]
    simp [Instr.box, newVar, newRow]
  · trivial
theorem fieldAtI_spec' {P : Program} {t : TypeId} {f off k : Nat} {ag : Bool} (h : fieldAtI P t f = some (off, ag, k)) : ∃ fs fd, P.underlying t = some (.struct fs) ∧ fs[f]? = some fd ∧ fd.offset = off ∧ tyI P fd.type = some (ag, k) := by
  unfold fieldAtI at h
  split at h
  · rename_i fs h1
    split at h
    · rename_i fd h2
      split at h
      · rename_i ag' k' h3
        cases h
        exact ⟨fs, fd, h1, h2, rfl, h3⟩
      · cases h
    · cases h
  · cases h
theorem op_box0 (X : InvX C s a w ι vis D) {o : Oper} {t : TypeId} {x : Operand} {y : Opd} (ho : o.op = .box t x) (h : cOpd C.P x = some y) : ResOK C s o a w ι vis D ((AOp.box0 t y).ex s.env s.σ) := by
  simp only [AOp.ex]
  split
  · rename_i hcs
    obtain ⟨r, o1⟩ := (ev_ok X h).cells hcs
    obtain ⟨ι', X', u, r'⟩ := new_raw X (.cells #[] t (0, 0))
    refine ⟨_, _, ι', .inl ?_, X', u, r'⟩
    unfold execOp
    simp only [ho]
    unfold RepEs at r
    have he : (a.eval x).cells = #[] := by
      rw [← Array.toList_inj]
      simpa using r
    simp [Instr.box, newVar, newRow, he]
  · trivial
theorem op_load0 (X : InvX C s a w ι vis D) {o : Oper} {t : TypeId} {x : Operand} {y : Opd} (ho : o.op = .load t x) (ht : tyI C.P t = some (true, 0)) (h : cOpd C.P x = some y) :
    ResOK C s o a w ι vis D ((AOp.load0 y).ex s.env s.σ) := by
  simp only [AOp.ex]
  split
  · rename_i id q hq
    have rx := ev_ok X h
    rw [hq] at rx
    unfold RepE at rx
    obtain ⟨g1, g2, b, c, g3, e⟩ := rx
    obtain ⟨t1, t2⟩ := tyI_spec ht w
    refine gives_pure X (v := .agg #[]) ?_ (by unfold RepE RepT; exact ⟨[], rfl, by unfold RepTs; rfl, by simp⟩)
    unfold execOp
    simp only [ho]
    rw [e]
    simp [Instr.loadAt, Instr.sureAddr, loadVar, t1, t2, loadCells, loadCellsFrom]
  · trivial
theorem op_faddr0 (X : InvX C s a w ι vis D) {o : Oper} {t : TypeId} {f : Nat} {ag : Bool} {x : Operand} {x' : Opd} (ho : o.op = .fieldAddr t x f) (hf : fieldAtI C.P t f = some (0, ag, 0)) (hb : fieldByte C.P t f = some 0) (hc : C.P.cellsOf t = 0) (hx : cOpd C.P x = some x') :
    ResOK C s o a w ι vis D ((AOp.faddr0 t x').ex s.env s.σ) := by
  obtain ⟨fs, fd, h1, h2, h0, h3⟩ := fieldAtI_spec' hf
  have hby : fd.byteOffset = 0 := by simpa [fieldByte, h1, h2] using hb
  have rx := ev_ok X hx
  simp only [AOp.ex]
  split
  · rename_i id hq
    split
    · rename_i t' hs
      split
      · rename_i ht
        subst ht
        rw [hq] at rx
        unfold RepE at rx
        obtain ⟨g1, g2, b, c, g3, e⟩ := rx
        have hO := X.mem.objs id _ hs
        rw [g3] at hO
        obtain ⟨ob, hw, hob⟩ := hO
        cases hob
        have hsh : w.shape? b = some (t', 0) := by simp [World.shape?, hw]
        refine gives_pure X (v := .pointer (some ⟨b, 0, none⟩)) ?_ (by unfold RepE; exact ⟨g1, g2, b, c, g3, rfl⟩)
        unfold execOp
        simp only [ho]
        rw [e]
        simp [Instr.fieldAt, run_underlying h1, h2, Instr.sureAddr, fieldPlace, (tyI_spec h3 w).2, partAt, byteOf, noView, viewAt, shape, hsh, hc, hby, h0, Sem.run, program]
      · trivial
    · trivial
  · trivial
theorem op_pick (X : InvX C s a w ι vis D) {o : Oper} {c x y : Operand} {c' x' y' : Opd} (ho : o.op = .pick c x y) (hc : cOpd C.P c = some c') (hx : cOpd C.P x = some x') (hy : cOpd C.P y = some y') :
    ResOK C s o a w ι vis D ((AOp.pick c' x' y').ex s.env s.σ) := by
  simp only [AOp.ex]
  split
  · rename_i t ht
    have hcr := ev_ok X hc
    rw [ht] at hcr
    unfold RepE RepT at hcr
    refine gives_pure X (v := if t then a.eval x else a.eval y) ?_ ?_
    · unfold execOp
      simp only [ho]
      simp [asBool, hcr]
    · cases t
      · exact ev_ok X hy
      · exact ev_ok X hx
  · trivial
theorem op_load (X : InvX C s a w ι vis D) {o : Oper} {t : TypeId} {x : Operand} {y : Opd} {ag : Bool} {k : Nat} (ho : o.op = .load t x) (ht : tyI C.P t = some (ag, k)) (h : cOpd C.P x = some y) :
    ResOK C s o a w ι vis D ((AOp.load ag k y).ex s.env s.σ) := by
  simp only [AOp.ex]
  cases hl : load? s.σ ag k (y.ev s.env) with
  | none => trivial
  | some e =>
    obtain ⟨u, hr, r⟩ := load_ok X ht (ev_ok X h) hl
    refine gives_pure X ?_ r
    unfold execOp
    simp only [ho]
    simp [hr]
theorem op_store (X : InvX C s a w ι vis D) {o : Oper} {t : TypeId} {p x : Operand} {p' x' : Opd} {ag : Bool} {k : Nat} (ho : o.op = .store t p x) (ht : tyI C.P t = some (ag, k)) (hp : cOpd C.P p = some p') (hx : cOpd C.P x = some x') :
    ResOK C s o a w ι vis D ((AOp.store k p' x').ex s.env s.σ) := by
  simp only [AOp.ex]
  split
  · rename_i σ' hs
    obtain ⟨w', hr, X', u⟩ := store_ok X ht (ev_ok X hp) (ev_ok X hx) hs
    refine ⟨undef, w', ι, .inr ⟨?_, rfl⟩, X', u, by unfold RepE RepT; rfl⟩
    unfold execOp
    simp only [ho]
    simp [hr]
  · trivial
end
end Go.Ab
