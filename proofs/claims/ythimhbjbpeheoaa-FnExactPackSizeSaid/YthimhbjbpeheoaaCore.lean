/- A part of the proof of 'FnExactPackSizeSaid' (Core): lemmas on an abstract machine for the program's functions. Conditions: none. -/
import Derived.Laws.AppendOwn
import Derived.Below
set_option linter.unusedVariables false
namespace Go.Proofs.AM
inductive T where
  | v (x : Value)
  | sl (own : Bool) (k : Nat) (rows : List (List T))
  | al (n : Nat) (b : Option Nat) (cap off len k : Nat)
  | junk
  deriving Inhabited
abbrev Rows := List (List T)
inductive AV where
  | v (x : Value)
  | ro (rows : Rows)
  | nil
  | ref (n : Nat) (b : Option Nat) (cap off len k : Nat)
  | ptr (n : Nat) (b : Option Nat) (k r c : Nat)
  | rptr (cells : List T)
  | agg (cs : List AV)
  | tup (cs : List AV)
  | fn (f : Nat) (caps : List AV)
  | io (i len k : Nat)
  | pio (i k : Nat)
  | junk
  deriving Inhabited
structure Ent where
  b : Option Nat
  cap : Nat
  k : Nat
  box : Bool
  rows : Rows
  deriving Inhabited
abbrev Heap := Nat → Option Ent
def esz (k : Nat) : Nat := k % 16
inductive HM (α : Type) : Type 1 where
  | ret (a : α)
  | get (n : Nat) (k : Ent → HM α)
  | put (n : Nat) (e : Option Ent) (k : HM α)
  | need (b : Bool) (k : HM α)
  | opt {β : Type} (x : Option β) (k : β → HM α)
  | fail
def HM.bind {α β : Type} : HM α → (α → HM β) → HM β
  | .ret a, f => f a
  | .get n k, f => .get n fun e => (k e).bind f
  | .put n e k, f => .put n e (k.bind f)
  | .need b k, f => .need b (k.bind f)
  | .opt x k, f => .opt x fun a => (k a).bind f
  | .fail, _ => .fail
instance : Monad HM where
  pure := HM.ret
  bind := HM.bind
def upd (o : Heap) (n : Nat) (e : Option Ent) : Heap := fun m => if m = n then e else o m
def HM.run {α : Type} : HM α → Heap → Option (α × Heap)
  | .ret a, o => some (a, o)
  | .get n k, o => match o n with
    | some e => (k e).run o
    | none => none
  | .put n e k, o => k.run (upd o n e)
  | .need b k, o => if b then k.run o else none
  | .opt x k, o => match x with
    | some a => (k a).run o
    | none => none
  | .fail, _ => none
def HM.log {α : Type} : HM α → Heap → List Nat × List Nat
  | .ret _, _ => ([], [])
  | .get n k, o => match o n with
    | some e => let l := (k e).log o; (n :: l.1, l.2)
    | none => ([], [])
  | .put n e k, o => let l := k.log (upd o n e); (l.1, n :: l.2)
  | .need b k, o => if b then k.log o else ([], [])
  | .opt x k, o => match x with
    | some a => (k a).log o
    | none => ([], [])
  | .fail, _ => ([], [])
def orFail {α : Type} (x : Option α) : HM α := .opt x .ret
def ask (n : Nat) : HM Ent := .get n .ret
def lay (n : Nat) (e : Option Ent) : HM Unit := .put n e (.ret ())
def need (b : Bool) : HM Unit := .need b (.ret ())
inductive Od where
  | t (n : Nat)
  | c (v : Value)
  | f (n : Nat)
  | zr
  deriving Inhabited
inductive Opx where
  | mv (x : Od)
  | nilck (x : Od)
  | pick (c a b : Od)
  | bin (op : BinOp) (x y : Od)
  | eqs (neg agg : Bool) (ks : List Nat) (x y : Od)
  | un (op : UnOp) (x : Od)
  | conv (k : IntKind) (x : Od)
  | len (s : Bool) (x : Od)
  | iaddr (e : Nat) (x i : Od)
  | faddr (off : Nat) (x : Od)
  | fld (off sz : Nat) (agg : Bool) (x : Od)
  | sidx (x i : Od)
  | ssl (x : Od) (lo hi : Option Od)
  | sls (e : Nat) (x : Od) (lo hi : Option Od)
  | load (sz : Nat) (agg : Bool) (p : Od)
  | store (ks : List (Option Nat)) (p x : Od)
  | box (k : Nat) (ks : List (Option Nat)) (x : Od)
  | alloc (k : Nat) (z : List T)
  | mks (k : Nat) (z : List T) (n m : Od)
  | lit (k : Nat) (ks : List (Option Nat)) (z : List T) (n : Nat) (ps : List (Nat × Od))
  | build (z : List AV) (ps : List (Nat × Nat × Od))
  | app (k : Nat) (mv : Bool) (a b : Od)
  | call (f : Nat) (xs : List (Bool × Od))
  | calld (f : Od) (xs : List (Bool × Od))
  | mkf (f : Nat) (xs : List Od)
  | ext (x : Od) (i : Nat)
  | bytes (x : Od)
  | frz (op : Opx)
  | ren (m k : Nat) (op : Opx)
  deriving Inhabited
structure IOp where
  dst : Option Nat
  op : Opx
  g : Option (Nat × Bool)
  deriving Inhabited
inductive IC where
  | skip
  | reg (ops : List IOp)
  | drw (ops : List IOp) (inc : List (Nat × Nat))
  | seq (a b : IC)
  | cond (c : Od) (a b : IC)
  | block (id : Nat) (a : IC)
  | loop (a : IC)
  | exit (id : Nat)
  | ret
  | ghost (cl : List (Nat × Nat × Nat)) (dr : List Nat)
  deriving Inhabited
structure St where
  t : Nat → AV
  o : Heap
abbrev Tm := Nat → AV
def updT (t : Tm) (d : Option Nat) (x : AV) : Tm := match d with
  | some d => fun i => if i = d then x else t i
  | none => t
def ofConst : Value → AV
  | .slice none 0 0 => .nil
  | .agg cs => .agg (cs.toList.map fun | .slice none 0 0 => .nil | x => .v x)
  | x => .v x
def ev (t : Tm) : Od → AV
  | .t n => t n
  | .c v => ofConst v
  | .f n => .fn n []
  | .zr => .ro []
def pbin : BinOp → Value → Value → Option Value
  | .add, .int k a, .int k' b => if k = k' then some (.int k (k.wrap (a + b))) else none
  | .sub, .int k a, .int k' b => if k = k' then some (.int k (k.wrap (a - b))) else none
  | .mul, .int k a, .int k' b => if k = k' then some (.int k (k.wrap (a * b))) else none
  | .quo, .int k a, .int k' b => if k = k' ∧ b ≠ 0 then some (.int k (k.wrap (a.tdiv b))) else none
  | .rem, .int k a, .int k' b => if k = k' ∧ b ≠ 0 then some (.int k (a.tmod b)) else none
  | .xor, .int k a, .int k' b => if k = k' then some (.int k (k.wrap (BitVec.ofInt k.bits a ^^^ BitVec.ofInt k.bits b).toNat)) else none
  | .and, .int k a, .int k' b => if k = k' then some (.int k (k.wrap (BitVec.ofInt k.bits a &&& BitVec.ofInt k.bits b).toNat)) else none
  | .shl, .int k a, .int _ b => if 0 ≤ b then some (.int k (k.wrap (a * 2 ^ (min b.toNat k.bits)))) else none
  | .shr, .int k a, .int _ b => if 0 ≤ b then some (.int k (a.fdiv (2 ^ (min b.toNat k.bits)))) else none
  | .eql, .int k a, .int k' b => if k = k' then some (.bool (a == b)) else none
  | .neq, .int k a, .int k' b => if k = k' then some (.bool (a != b)) else none
  | .lss, .int k a, .int k' b => if k = k' then some (.bool (decide (a < b))) else none
  | .leq, .int k a, .int k' b => if k = k' then some (.bool (decide (a ≤ b))) else none
  | .gtr, .int k a, .int k' b => if k = k' then some (.bool (decide (a > b))) else none
  | .geq, .int k a, .int k' b => if k = k' then some (.bool (decide (a ≥ b))) else none
  | .add, .string a, .string b => if a.size + b.size ≤ 9223372036854775807 then some (.string (a ++ b)) else none
  | .eql, .string a, .string b => some (.bool (a.toList == b.toList))
  | .neq, .string a, .string b => some (.bool (!(a.toList == b.toList)))
  | .lss, .string a, .string b => some (.bool (Op.bytesLess a.toList b.toList))
  | .leq, .string a, .string b => some (.bool (Op.bytesLess a.toList b.toList || a.toList == b.toList))
  | .gtr, .string a, .string b => some (.bool (!(Op.bytesLess a.toList b.toList || a.toList == b.toList)))
  | .geq, .string a, .string b => some (.bool (!Op.bytesLess a.toList b.toList))
  | _, _, _ => none
def eq1 : Nat → Value → Value → Option Bool
  | 0, .int k a, .int k' b => if k = k' then some (a == b) else none
  | 1, .bool a, .bool b => some (a == b)
  | 2, .string a, .string b => some (a == b)
  | _, _, _ => none
def eqL : List Nat → List AV → List AV → Option Bool
  | [], [], [] => some true
  | k :: ks, .v a :: as, .v b :: bs => match eq1 k a b, eqL ks as bs with
    | some p, some q => some (p && q)
    | _, _ => none
  | _, _, _ => none
def eqAV (agg : Bool) (ks : List Nat) : AV → AV → Option Bool
  | .v a, .v b => match agg, ks with
    | false, [k] => eq1 k a b
    | _, _ => none
  | .agg as, .agg bs => if agg then eqL ks as bs else none
  | _, _ => none
def pun : UnOp → Value → Option Value
  | .neg, .int k n => some (.int k (k.wrap (0 - n)))
  | .not, .bool b => some (.bool !b)
  | _, _ => none
def flat : AV → List AV
  | .agg cs => cs
  | x => [x]
def asI : AV → Option Int
  | .v (.int _ n) => some n
  | _ => none
def asIo : Option AV → Option (Option Int)
  | none => some none
  | some x => (asI x).map some
def roAV : T → Option AV
  | .v x => some (.v x)
  | .sl false _ rows => some (.ro rows)
  | _ => none
def roAVs : List T → Option (List AV)
  | [] => some []
  | c :: cs => match roAV c, roAVs cs with
    | some x, some xs => some (x :: xs)
    | _, _ => none
def one (agg : Bool) (cs : List AV) : Option AV := if agg then some (.agg cs) else match cs with
  | [x] => some x
  | _ => none
def setAt {α : Type} : List α → Nat → List α → List α
  | xs, _, [] => xs
  | xs, p, y :: ys => setAt (xs.set p y) (p + 1) ys
def isCell : AV → Bool
  | .v x => x.oneCell'
  | .ro _ => true
  | .nil => true
  | .ref .. => true
  | _ => false
def bld (t : Tm) : List (Nat × Nat × Od) → List AV → Option (List AV)
  | [], cs => some cs
  | (off, sz, x) :: ps, cs => if (flat (ev t x)).length = sz ∧ off + sz ≤ cs.length ∧ (flat (ev t x)).all isCell = true then bld t ps (setAt cs off (flat (ev t x))) else none
def evp (t : Tm) : Opx → Option AV
  | .mv x => some (ev t x)
  | .nilck x => match ev t x with
    | .ptr n b k r c => some (.ptr n b k r c)
    | .rptr cs => some (.rptr cs)
    | _ => none
  | .pick c a b => match ev t c with
    | .v (.bool p) => some (if p then ev t a else ev t b)
    | _ => none
  | .bin op x y => match ev t x, ev t y with
    | .v a, .v b => (pbin op a b).map .v
    | _, _ => none
  | .eqs neg agg ks x y => (eqAV agg ks (ev t x) (ev t y)).map fun p => .v (.bool (if neg then !p else p))
  | .un op x => match ev t x with
    | .v a => (pun op a).map .v
    | _ => none
  | .conv k x => match ev t x with
    | .v (.int _ n) => some (.v (.int k (k.wrap n)))
    | _ => none
  | .len s x => match s, ev t x with
    | true, .v (.string s) => some (.v (.int .i64 s.size))
    | false, .ro rows => some (.v (.int .i64 rows.length))
    | false, .nil => some (.v (.int .i64 0))
    | false, .ref _ _ _ _ len _ => some (.v (.int .i64 len))
    | _, _ => none
  | .iaddr e x i => match ev t x, asI (ev t i) with
    | .ro rows, some i => if 0 ≤ i ∧ i.toNat < rows.length ∧ (rows.getD i.toNat []).length = e then some (.rptr (rows.getD i.toNat [])) else none
    | .ref n b cap off len k, some i => if 0 ≤ i ∧ i.toNat < len ∧ e = esz k then some (.ptr n b k (off + i.toNat) 0) else none
    | _, _ => none
  | .faddr off x => match ev t x with
    | .rptr cs => some (.rptr (cs.drop off))
    | .ptr n b k r c => some (.ptr n b k r (c + off))
    | _ => none
  | .fld off sz agg x => match ev t x with
    | .agg cs => if off + sz ≤ cs.length then one agg ((cs.drop off).take sz) else none
    | _ => none
  | .sidx x i => match ev t x, asI (ev t i) with
    | .v (.string s), some i => if h : i.toNat < s.size then (if 0 ≤ i then some (.v (.int .u8 (s[i.toNat]'h).toNat)) else none) else none
    | _, _ => none
  | .ssl x lo hi => match ev t x, asIo (lo.map (ev t)), asIo (hi.map (ev t)) with
    | .v (.string s), some l, some h =>
      if 0 ≤ l.getD 0 ∧ l.getD 0 ≤ h.getD s.size ∧ h.getD s.size ≤ s.size then some (.v (.string (s.extract (l.getD 0).toNat (h.getD s.size).toNat))) else none
    | _, _, _ => none
  | .sls e x lo hi => match ev t x, asIo (lo.map (ev t)), asIo (hi.map (ev t)) with
    | .ro rows, some l, some h =>
      if (0 ≤ l.getD 0 ∧ l.getD 0 ≤ h.getD rows.length ∧ h.getD rows.length ≤ rows.length) ∧ (rows.head?.map List.length).getD e = e then some (.ro ((rows.take (h.getD rows.length).toNat).drop (l.getD 0).toNat)) else none
    | .ref n b cap off len k, some l, some h =>
      if e = esz k ∧ 0 ≤ l.getD 0 ∧ l.getD 0 ≤ h.getD len ∧ h.getD len ≤ len then some (.ref n b cap (off + (l.getD 0).toNat) ((h.getD len).toNat - (l.getD 0).toNat) k) else none
    | _, _, _ => none
  | .load sz agg p => match ev t p with
    | .rptr cs => if sz ≤ cs.length then (roAVs (cs.take sz)).bind (one agg) else none
    | _ => none
  | .build z ps => (bld t ps z).map .agg
  | .mkf f xs => some (.fn f (xs.map (ev t)))
  | .ext x i => match ev t x with
    | .tup cs => cs[i]?
    | _ => none
  | _ => none
abbrev Ch := Nat → Option Nat × Nat
mutual
def erT : T → Option T
  | .v x => some (.v x)
  | .sl _ k rows => (erR rows).map (.sl false (k % 16))
  | _ => none
def erL : List T → Option (List T)
  | [] => some []
  | c :: cs => match erT c, erL cs with
    | some x, some xs => some (x :: xs)
    | _, _ => none
def erR : List (List T) → Option (List (List T))
  | [] => some []
  | r :: rs => match erL r, erR rs with
    | some x, some xs => some (x :: xs)
    | _, _ => none
end
def borT : T → HM T
  | .al n b cap off len k => do
    let e ← ask n
    need (decide (e.b = b) && decide (e.k = k) && decide (off + len ≤ e.rows.length) && !e.box)
    orFail ((erR ((e.rows.drop off).take len)).map (.sl false (k % 16)))
  | c => orFail (erT c)
def borTs : List T → HM (List T)
  | [] => .ret []
  | c :: cs => do
    let x ← borT c
    let xs ← borTs cs
    .ret (x :: xs)
mutual
def bor : AV → HM AV
  | .v x => .ret (.v x)
  | .ro rows => .ret (.ro rows)
  | .nil => .ret (.ro [])
  | .ref n b cap off len k => do
    let e ← ask n
    need (decide (e.b = b) && decide (e.k = k) && decide (off + len ≤ e.rows.length) && !e.box)
    orFail ((erR ((e.rows.drop off).take len)).map .ro)
  | .ptr n b k r c => do
    let e ← ask n
    need (decide (e.b = b) && decide (e.k = k) && decide (r < e.rows.length))
    let cs ← borTs ((e.rows.getD r []).drop c)
    .ret (.rptr cs)
  | .rptr cs => .ret (.rptr cs)
  | .agg cs => do
    let xs ← bors cs
    .ret (.agg xs)
  | .fn f caps => do
    let xs ← bors caps
    .ret (.fn f xs)
  | _ => .fail
def bors : List AV → HM (List AV)
  | [] => .ret []
  | c :: cs => do
    let x ← bor c
    let xs ← bors cs
    .ret (x :: xs)
end
def cn (host j : Nat) : Nat := 1000000 + host * 16 + j
def toT (box : Bool) (host j : Nat) : Option Nat → AV → HM T
  | none, .v x => do need x.oneCell'; .ret (.v x)
  | some k, .ro rows => .ret (.sl false (k % 16) rows)
  | some k, .nil => match box with
    | true => do
      lay (cn host j) (some ⟨none, 0, k, false, []⟩)
      .ret (.al (cn host j) none 0 0 0 k)
    | false => .ret (.sl true k [])
  | some k', .ref n b cap off len k => match box with
    | true => do
      let e ← ask n
      need (decide (e.b = b) && decide (e.cap = cap) && !e.box && decide (n ≠ host) && decide (e.k = k))
      lay n none
      lay (cn host j) (some e)
      .ret (.al (cn host j) b cap off len k)
    | false => do
      let e ← ask n
      need (decide (e.b = b) && decide (e.cap = cap) && decide (off = 0) && decide (len ≤ e.rows.length) && !e.box && decide (n ≠ host) && decide (e.k = k) && decide (k = k'))
      lay n none
      .ret (.sl true k (e.rows.take len))
  | _, _ => .fail
def toTs (box : Bool) (host : Nat) : Nat → List (Option Nat) → List AV → HM (List T)
  | _, [], [] => .ret []
  | j, k :: ks, x :: xs => do
    let c ← toT box host j k x
    let cs ← toTs box host (j + 1) ks xs
    .ret (c :: cs)
  | _, _, _ => .fail
def zopen (host : Nat) : Nat → List T → HM (List T)
  | _, [] => .ret []
  | j, c :: cs => do
    let c' ← (match c with
      | .sl true k [] => do
        lay (cn host j) (some ⟨none, 0, k, false, []⟩)
        .ret (.al (cn host j) none 0 0 0 k)
      | c => (.ret c : HM T))
    let cs' ← zopen host (j + 1) cs
    .ret (c' :: cs')
def opens (d : Nat) (ch : Ch) : Nat → List T → HM (List AV × List T)
  | _, [] => .ret ([], [])
  | j, c :: cs => do
    let (x, c') ← (match c with
      | .v x => (.ret (.v x, .v x) : HM (AV × T))
      | .sl false k rows => .ret (.ro rows, .sl false k rows)
      | .al n b cap off len k => .ret (.ref n b cap off len k, .al n b cap off len k)
      | .sl true k rows => do
        lay (d * 8 + j) (some { b := (ch j).1, cap := (ch j).2, k := k, box := false, rows := rows })
        .ret (.ref (d * 8 + j) (ch j).1 (ch j).2 0 rows.length k, .al (d * 8 + j) (ch j).1 (ch j).2 0 rows.length k)
      | .junk => .ret (.junk, .junk))
    let (xs, cs') ← opens d ch (j + 1) cs
    .ret (x :: xs, c' :: cs')
def owns : List T → Bool
  | [] => false
  | .sl true _ _ :: _ => true
  | _ :: cs => owns cs
def readC : T → AV
  | .v x => .v x
  | .sl _ _ rows => .ro rows
  | .al n b cap off len k => .ref n b cap off len k
  | .junk => .junk
def parts (host : Nat) (ks : List (Option Nat)) (t : Tm) : List (Nat × Od) → Rows → HM Rows
  | [], rows => .ret rows
  | (i, x) :: ps, rows => do
    need (decide (i < rows.length))
    let cs ← toTs false host 0 ks (flat (ev t x))
    parts host ks t ps (rows.set i cs)
def plain (rows : Rows) : Bool := rows.all fun r => r.all fun | .v _ => true | .sl false _ _ => true | _ => false
def appSrc (k : Nat) (mv : Bool) (host : Option Nat) : AV → HM Rows
  | .nil => .ret []
  | .ro rows => do need (plain rows && decide ((rows.head?.map List.length).getD (esz k) = esz k)); .ret rows
  | .ref n b cap off len k' => do
    let e ← ask n
    need (decide (e.b = b) && decide (e.cap = cap) && decide (e.k = k) && decide (k' = k) && decide (off + len ≤ e.rows.length) && !e.box && decide (host ≠ some n))
    if mv then do lay n none; .ret ((e.rows.drop off).take len) else do need (plain ((e.rows.drop off).take len)); .ret ((e.rows.drop off).take len)
  | _ => .fail
def most : Nat := 4294967296
def closeT : T → HM T
  | .al n b cap off len k => do
    let e ← ask n
    need (decide (e.b = b) && decide (e.cap = cap) && decide (off = 0) && decide (len ≤ e.rows.length) && !e.box && decide (e.k = k))
    lay n none
    .ret (.sl true k (e.rows.take len))
  | c => .ret c
def closeTs : List T → HM (List T)
  | [] => .ret []
  | c :: cs => do
    let x ← closeT c
    let xs ← closeTs cs
    .ret (x :: xs)
structure In where
  n : Nat
  e : Ent
def giveL (i : Nat) : List AV → HM (List AV × List In)
  | [] => .ret ([], [])
  | .ref n b cap off len k :: cs => do
    let e ← ask n
    need (decide (e.b = b) && decide (e.cap = cap) && decide (e.k = k) && decide (off = 0) && decide (len = e.rows.length) && !e.box)
    lay n none
    let (xs, ins) ← giveL (i + 1) cs
    .ret (.io i len k :: xs, ⟨n, e⟩ :: ins)
  | .ptr n b k r c :: cs => do
    let e ← ask n
    need (decide (e.b = b) && decide (e.k = k) && decide (e.rows.length = 1) && decide (r = 0) && decide (c = 0) && e.box)
    lay n none
    let row ← closeTs (e.rows.getD 0 [])
    let (xs, ins) ← giveL (i + 1) cs
    .ret (.pio i k :: xs, ⟨n, { e with rows := [row] }⟩ :: ins)
  | .nil :: cs => do
    let (xs, ins) ← giveL i cs
    .ret (.ro [] :: xs, ins)
  | .v x :: cs => do
    let (xs, ins) ← giveL i cs
    .ret (.v x :: xs, ins)
  | _ :: _ => .fail
def isAgg' : AV → Bool
  | .agg _ => true
  | _ => false
def gives (t : Tm) : Nat → List (Bool × Od) → HM (List (Option AV) × List In)
  | _, [] => .ret ([], [])
  | i, (m, x) :: xs => if m then do
      let (ys, ins) ← giveL i (flat (ev t x))
      let y ← orFail (one (isAgg' (ev t x)) ys)
      let (zs, more) ← gives t (i + ins.length) xs
      .ret (some y :: zs, ins ++ more)
    else do
      let (zs, more) ← gives t i xs
      .ret (none :: zs, more)
def lends (t : Tm) : List (Bool × Od) → List (Option AV) → HM (List AV)
  | [], [] => .ret []
  | (_, x) :: xs, y :: ys => do
    let z ← (match y with | some y => (.ret y : HM AV) | none => bor (ev t x))
    let zs ← lends t xs ys
    .ret (z :: zs)
  | _, _ => .fail
def args (t : Tm) (xs : List (Bool × Od)) : HM (List AV × List In) := do
  let (ys, ins) ← gives t 0 xs
  let zs ← lends t xs ys
  .ret (zs, ins)
mutual
def frz : AV → Bool
  | .v _ => true
  | .ro _ => true
  | .rptr _ => true
  | .nil => true
  | .agg cs => frzs cs
  | .fn _ cs => frzs cs
  | _ => false
def frzs : List AV → Bool
  | [] => true
  | c :: cs => frz c && frzs cs
end
def frzA (t : Tm) (xs : List (Bool × Od)) : Bool := xs.all fun x => x.1 || frz (ev t x.2)
mutual
def ownT : T → Bool
  | .v _ => true
  | .sl true _ rows => ownR rows
  | .sl false _ rows => rows.isEmpty
  | _ => false
def ownL : List T → Bool
  | [] => true
  | c :: cs => ownT c && ownL cs
def ownR : List (List T) → Bool
  | [] => true
  | r :: rs => ownL r && ownR rs
end
structure Ans where
  res : List (Bool × List T)
  outs : List Rows
abbrev Gam := Nat → List AV → List (Bool × Nat × Rows) → Option Ans
def deliv (d : Nat) (ch : Ch) : Nat → List T → HM (List AV)
  | _, [] => .ret []
  | j, c :: cs => do
    let x ← (match c with
      | .v x => (.ret (.v x) : HM AV)
      | .sl false _ rows => .ret (.ro rows)
      | .sl true k rows => do
        lay (d * 8 + j) (some { b := (ch j).1, cap := (ch j).2, k := k, box := false, rows := rows })
        .ret (.ref (d * 8 + j) (ch j).1 (ch j).2 0 rows.length k)
      | _ => .ret .junk)
    let xs ← deliv d ch (j + 1) cs
    .ret (x :: xs)
def delivs (d : Nat) (ch : Ch) : Nat → List (Bool × List T) → HM (List AV)
  | _, [] => .ret []
  | j, (agg, cs) :: rs => do
    let xs ← deliv d ch j cs
    let x ← orFail (one agg xs)
    let ys ← delivs d ch (j + cs.length) rs
    .ret (x :: ys)
def backs : List In → List Rows → HM Unit
  | [], [] => .ret ()
  | i :: is, r :: rs => do
    lay i.n (some { i.e with rows := r })
    backs is rs
  | _, _ => .fail
def tupA : List AV → AV
  | [y] => y
  | ys => .tup ys
def tail (ins : List In) (r : Ans) (d : Nat) (ch : Ch) : HM AV := do
  backs ins r.outs
  let ys ← delivs d ch 0 r.res
  .ret (tupA ys)
mutual
def frzV : AV → HM AV
  | .v x => .ret (.v x)
  | .ro rows => .ret (.ro rows)
  | .nil => .ret (.ro [])
  | .ref n b cap off len k => do
    let e ← ask n
    need (decide (e.b = b) && decide (e.k = k) && decide (off + len ≤ e.rows.length) && !e.box)
    lay n none
    .opt (erR ((e.rows.drop off).take len)) fun r => .ret (.ro r)
  | .agg cs => do
    let xs ← frzVs cs
    .ret (.agg xs)
  | .tup cs => do
    let xs ← frzVs cs
    .ret (.tup xs)
  | _ => .fail
def frzVs : List AV → HM (List AV)
  | [] => .ret []
  | c :: cs => do
    let x ← frzV c
    let xs ← frzVs cs
    .ret (x :: xs)
end
def renV (m k0 : Nat) : AV → HM AV
  | .nil => do
    lay m (some ⟨none, 0, k0, false, []⟩)
    .ret (.ref m none 0 0 0 k0)
  | .ref n b cap off len k => do
    let e ← ask n
    lay n none
    lay m (some e)
    .ret (.ref m b cap off len k)
  | _ => .fail
def opSem (G : Gam) (d : Nat) (ch : Ch) (t : Tm) : Opx → HM AV
  | .load sz agg p => match ev t p with
    | .rptr cs => if sz ≤ cs.length then orFail ((roAVs (cs.take sz)).bind (one agg)) else .fail
    | .ptr n b k r c => do
      let e ← ask n
      need (decide (e.b = b) && decide (e.k = k) && decide (r < e.rows.length) && decide (c + sz ≤ (e.rows.getD r []).length))
      match owns (((e.rows.getD r []).drop c).take sz) with
      | false => orFail (one agg ((((e.rows.getD r []).drop c).take sz).map readC))
      | true => do
        let (xs, cs) ← opens d ch 0 (((e.rows.getD r []).drop c).take sz)
        let y ← orFail (one agg xs)
        lay n (some { e with rows := e.rows.set r (setAt (e.rows.getD r []) c cs) })
        .ret y
    | _ => .fail
  | .store ks p x => match ev t p with
    | .ptr n b k r c => do
      let e0 ← ask n
      let cs ← toTs e0.box n c ks (flat (ev t x))
      let e ← ask n
      need (decide (e.b = b) && decide (e.k = k) && decide (r < e.rows.length) && decide (c + ks.length ≤ (e.rows.getD r []).length))
      lay n (some { e with rows := e.rows.set r (setAt (e.rows.getD r []) c cs) })
      .ret .junk
    | _ => .fail
  | .box k ks x => do
    let cs ← toTs true (d * 8) 0 ks (flat (ev t x))
    lay (d * 8) (some { b := some ((ch 0).1.getD 0), cap := 1, k := k, box := true, rows := [cs] })
    .ret (.ptr (d * 8) (some ((ch 0).1.getD 0)) k 0 0)
  | .alloc k z => do
    let cs ← zopen (d * 8) 0 z
    lay (d * 8) (some { b := some ((ch 0).1.getD 0), cap := 1, k := k, box := true, rows := [cs] })
    .ret (.ptr (d * 8) (some ((ch 0).1.getD 0)) k 0 0)
  | .mks k z n m => match asI (ev t n), asI (ev t m) with
    | some n, some m => do
      need (decide (0 ≤ n) && decide (n = m) && decide (n.toNat ≤ most))
      lay (d * 8) (some { b := some ((ch 0).1.getD 0), cap := n.toNat, k := k, box := false, rows := List.replicate n.toNat z })
      .ret (.ref (d * 8) (some ((ch 0).1.getD 0)) n.toNat 0 n.toNat k)
    | _, _ => .fail
  | .lit k ks z n ps => do
    let rows ← parts (d * 8) ks t ps (List.replicate n z)
    lay (d * 8) (some { b := some ((ch 0).1.getD 0), cap := n, k := k, box := false, rows := rows })
    .ret (.ref (d * 8) (some ((ch 0).1.getD 0)) n 0 n k)
  | .app k mv a b => match ev t a with
    | .nil => do
      let ys ← appSrc k mv none (ev t b)
      need (decide (ys.length ≤ most))
      lay (d * 8) (some { b := (ch 0).1, cap := (ch 0).2, k := k, box := false, rows := ys })
      .ret (.ref (d * 8) (ch 0).1 (ch 0).2 0 ys.length k)
    | .ref n b' cap off len k' => do
      let ys ← appSrc k mv (some n) (ev t b)
      let e ← ask n
      need (decide (e.b = b') && decide (e.cap = cap) && decide (off = 0) && decide (len ≤ e.rows.length) && !e.box && decide (e.k = k) && decide (k' = k) && decide (len + ys.length ≤ most))
      lay n (some { b := (ch 0).1, cap := (ch 0).2, k := k, box := false, rows := e.rows.take len ++ ys })
      .ret (.ref n (ch 0).1 (ch 0).2 0 (len + ys.length) k)
    | _ => .fail
  | .call f xs => do
    let (as, ins) ← args t xs
    let r ← orFail (G f as (ins.map fun i => (i.e.box, i.e.k, i.e.rows)))
    need (frzA t xs || (ownR (r.res.map (·.2)) && r.outs.all ownR))
    tail ins r d ch
  | .calld f xs => match ev t f with
    | .fn g caps => do
      let (as, ins) ← args t xs
      let cs ← bors caps
      let r ← orFail (G g (as ++ cs) (ins.map fun i => (i.e.box, i.e.k, i.e.rows)))
      need ((frzA t xs && frzs caps) || (ownR (r.res.map (·.2)) && r.outs.all ownR))
      tail ins r d ch
    | _ => .fail
  | .frz op => do
    let x ← opSem G d ch t op
    frzV x
  | .ren m k op => do
    let x ← opSem G d ch t op
    renV m k x
  | op => orFail (evp t op)
inductive Ex where
  | norm
  | exit (id : Nat)
  | ret
def unv : AV := .v (.tuple #[])
def wantd (t : Tm) : Option (Nat × Bool) → Option Bool
  | none => some true
  | some (g, b) => match t g with
    | .v (.bool p) => some (p == b)
    | .v (.tuple _) => some false
    | _ => none
def stpH (G : Gam) (op : IOp) (s : St) (K : St → List Nat × List Nat → Prop) : Prop := ∀ ch : Ch, match (opSem G (op.dst.getD 0) ch s.t op.op).run s.o with
  | some (x, o) => K ⟨updT s.t op.dst x, o⟩ ((opSem G (op.dst.getD 0) ch s.t op.op).log s.o)
  | none => False
def stpL (G : Gam) (op : IOp) (s : St) (K : St → List Nat × List Nat → Prop) : Prop := match wantd s.t op.g with
  | some true => match evp s.t op.op with
    | some x => K ⟨updT s.t op.dst x, s.o⟩ ([], [])
    | none => stpH G op s K
  | some false => K ⟨updT s.t op.dst unv, s.o⟩ ([], [])
  | none => False
def stp (G : Gam) (op : IOp) (s : St) (K : St → Prop) : Prop := match wantd s.t op.g with
  | some true => match evp s.t op.op with
    | some x => K ⟨updT s.t op.dst x, s.o⟩
    | none => stpH G op s fun s' _ => K s'
  | some false => K ⟨updT s.t op.dst unv, s.o⟩
  | none => False
def stps (G : Gam) : List IOp → (St → Prop) → St → Prop
  | [], K, s => K s
  | op :: ops, K, s => stp G op s (stps G ops K)
def apartL (a b : List Nat × List Nat) : Bool := a.2.all (fun n => !b.1.contains n && !b.2.contains n) && b.2.all (fun n => !a.1.contains n)
def compat (inc : List (Nat × Nat)) (L : List (List Nat × List Nat)) : Bool := inc.all fun p => apartL (L.getD p.1 ([], [])) (L.getD p.2 ([], []))
def stpLs (G : Gam) (inc : List (Nat × Nat)) : List IOp → List (List Nat × List Nat) → (St → Prop) → St → Prop
  | [], L, K, s => compat inc L = true ∧ K s
  | op :: ops, L, K, s => stpL G op s fun s' l => stpLs G inc ops (L ++ [l]) K s'
def ghost1 (o : Heap) (c : Nat × Nat × Nat) : Option Heap := match o c.1, o c.2.1 with
  | some e, some h => match (h.rows.getD (c.2.2 / 16) [])[c.2.2 % 16]? with
    | some (.al n b cap off len k) => if n = c.1 ∧ b = e.b ∧ off = 0 ∧ len = e.rows.length ∧ k = e.k ∧ cap = e.cap ∧ e.box = false ∧ c.1 ≠ c.2.1 then some (upd (upd o c.1 none) c.2.1 (some { h with rows := h.rows.set (c.2.2 / 16) ((h.rows.getD (c.2.2 / 16) []).set (c.2.2 % 16) (.sl true k e.rows)) })) else none
    | _ => none
  | _, _ => none
def ghosts : List (Nat × Nat × Nat) → Heap → Option Heap
  | [], o => some o
  | c :: cs, o => (ghost1 o c).bind (ghosts cs)
def drops (dr : List Nat) (o : Heap) : Heap := fun n => if n ∈ dr then none else o n
def awp (G : Gam) : IC → (Ex → St → Prop) → St → Prop
  | .skip, Q, s => Q .norm s
  | .reg ops, Q, s => stps G ops (Q .norm) s
  | .drw ops inc, Q, s => stpLs G inc ops [] (Q .norm) s
  | .seq a b, Q, s => awp G a (fun e s' => match e with | .norm => awp G b Q s' | e => Q e s') s
  | .cond c a b, Q, s => match ev s.t c with
    | .v (.bool p) => if p then awp G a Q s else awp G b Q s
    | _ => False
  | .block id a, Q, s => awp G a (fun e s' => match e with | .exit i => if i = id then Q .norm s' else Q (.exit i) s' | e => Q e s') s
  | .loop a, Q, s => ∃ I : Nat → St → Prop, (∃ n, I n s) ∧ ∀ n s', I n s' → awp G a (fun e s'' => match e with | .norm => ∃ m, m < n ∧ I m s'' | e => Q e s'') s'
  | .exit id, Q, s => Q (.exit id) s
  | .ret, Q, s => Q .ret s
  | .ghost cl dr, Q, s => match ghosts cl s.o with
    | some o => Q .norm ⟨s.t, drops dr o⟩
    | none => False
structure IFn where
  ntmps : Nat
  res : List (Nat ⊕ Nat × Nat)
  body : IC
def giveT : AV → HM T
  | .v x => do need x.oneCell'; .ret (.v x)
  | .ref n b cap off len k => do
    let e ← ask n
    need (decide (e.b = b) && decide (e.cap = cap) && decide (off = 0) && decide (len ≤ e.rows.length) && !e.box && decide (e.k = k))
    lay n none
    .ret (.sl true k (e.rows.take len))
  | _ => .fail
def giveTk : Option Nat → AV → HM T
  | some k, .nil => .ret (.sl true k [])
  | some k, .ro rows => .ret (.sl false (k % 16) rows)
  | _, x => giveT x
def giveTs : List (Option Nat) → List AV → HM (List T)
  | [], [] => .ret []
  | k :: ks, x :: xs => do
    let c ← giveTk k x
    let cs ← giveTs ks xs
    .ret (c :: cs)
  | _, _ => .fail
def results1 (t : Tm) : Nat ⊕ Nat × Nat → List (Option Nat) → HM (Bool × List T)
  | .inl n, ks => do
    let cs ← giveTs ks (flat (t n))
    .ret (isAgg' (t n), cs)
  | .inr (n, sz), ks => match t n with
    | .ptr m b k 0 0 => do
      let e ← ask m
      need (decide (e.b = b) && decide (e.k = k) && decide (e.rows.length = 1) && decide ((e.rows.getD 0 []).length = sz) && e.box)
      lay m none
      let cs ← closeTs (e.rows.getD 0 [])
      .ret (true, cs)
    | _ => .fail
def resultsA (t : Tm) : List (Nat ⊕ Nat × Nat) → List (List (Option Nat)) → HM (List (Bool × List T))
  | [], [] => .ret []
  | r :: rs, k :: ks => do
    let x ← results1 t r k
    let xs ← resultsA t rs ks
    .ret (x :: xs)
  | _, _ => .fail
def outsA (bs : Nat → Option Nat × Nat) : Nat → List (Bool × Nat × Rows) → HM (List Rows)
  | _, [] => .ret []
  | i, (box, k, _) :: ins => do
    let e ← ask (i * 8)
    need (decide (e.b = (bs i).1) && decide (e.cap = (bs i).2) && decide (e.k = k) && decide (e.box = box) && (!box || decide (e.rows.length = 1)))
    lay (i * 8) none
    let rows ← (if box then (do let r ← closeTs (e.rows.getD 0 []); .ret [r]) else (.ret e.rows : HM Rows))
    let rs ← outsA bs (i + 1) ins
    .ret (rows :: rs)
def parC (bs : Nat → Option Nat × Nat) : AV → AV
  | .io i len k => .ref (i * 8) (bs i).1 (bs i).2 0 len k
  | .pio i k => .ptr (i * 8) (bs i).1 k 0 0
  | x => x
def parA (bs : Nat → Option Nat × Nat) : AV → AV
  | .agg cs => .agg (cs.map (parC bs))
  | x => parC bs x
def parT (bs : Nat → Option Nat × Nat) (xs : List AV) : Tm := fun i => parA bs (xs.getD i .junk)
def parH (bs : Nat → Option Nat × Nat) (ins : List (Bool × Nat × Rows)) : Heap := fun n =>
  if n % 8 = 0 then (match ins[n / 8]? with
    | some (box, k, rows) => some { b := (bs (n / 8)).1, cap := (bs (n / 8)).2, k := k, box := box, rows := rows }
    | none => none) else none
def retOk (f : IFn) (ks : List (List (Option Nat))) (bs : Nat → Option Nat × Nat) (ins : List (Bool × Nat × Rows)) (a : Ans) (s : St) : Prop :=
  match (do let os ← outsA bs 0 ins; let r ← resultsA s.t f.res ks; HM.ret (r, os) : HM (List (Bool × List T) × List Rows)).run s.o with
  | some ((r, os), _) => r = a.res ∧ os = a.outs
  | none => False
def Does (G : Gam) (f : IFn) (ks : List (List (Option Nat))) (xs : List AV) (ins : List (Bool × Nat × Rows)) (a : Ans) : Prop :=
  ∀ bs : Nat → Option Nat × Nat, awp G f.body (fun e s => match e with | .exit _ => False | _ => retOk f ks bs ins a s) ⟨parT bs xs, parH bs ins⟩
end Go.Proofs.AM
