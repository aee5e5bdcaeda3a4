/- Lemmas of the proof (Core), on an abstract machine. Conditions: none. -/
import Derived.Laws.AppendOwn
import Derived.Below
set_option linter.unusedVariables false
namespace Go.Proofs.AM
inductive T where
 | v (x : Value)
 | sl (own : Bool) (k : Nat) (rows : List (List T))
 | al (n : Nat) (b : Option Nat) (cap off len k : Nat)
 | bx (k : Nat) (row : List T)
 | rw (A : Option Addr) (cap : Nat) (rows : List (List T))
 | junk
 deriving Inhabited
abbrev Rows := List (List T)
inductive AV where
 | v (x : Value)
 | ro (rows : Rows)
 | raw (A : Option Addr) (cap : Nat) (rows : Rows)
 | lref (n : Nat) (b : Option Nat) (cap len k : Nat)
 | nil
 | ref (n : Nat) (b : Option Nat) (cap off len k : Nat)
 | ptr (n : Nat) (b : Option Nat) (k r c : Nat)
 | rptr (cells : List T)
 | agg (cs : List AV)
 | tup (cs : List AV)
 | fn (f : Nat) (caps : List AV)
 | io (i len k : Nat)
 | pio (i k : Nat)
 | junk
 deriving Inhabited
structure Ent where
 b : Option Nat
 cap : Nat
 k : Nat
 box : Bool
 rows : Rows
 deriving Inhabited
abbrev ah7 := Nat → Option Ent
def esz (k : Nat) : Nat := k % 16
inductive HM (α : Type) : Type 1 where
 | ret (a : α)
 | get (n : Nat) (k : Ent → HM α)
 | put (n : Nat) (e : Option Ent) (k : HM α)
 | need (b : Bool) (k : HM α)
 | opt {β : Type} (x : Option β) (k : β → HM α)
 | fail
def HM.bind {α β : Type} : HM α → (α → HM β) → HM β
 | .ret a, f => f a
 | .get n k, f => .get n fun e => (k e).bind f
 | .put n e k, f => .put n e (k.bind f)
 | .need b k, f => .need b (k.bind f)
 | .opt x k, f => .opt x fun a => (k a).bind f
 | .fail, _ => .fail
instance : Monad HM where
 pure := HM.ret
 bind := HM.bind
def upd (o : ah7) (n : Nat) (e : Option Ent) : ah7 := fun m => if m = n then e else o m
def HM.run {α : Type} : HM α → ah7 → Option (α × ah7)
 | .ret a, o => some (a, o)
 | .get n k, o => match o n with
  | some e => (k e).run o
  | none => none
 | .put n e k, o => k.run (upd o n e)
 | .need b k, o => if b then k.run o else none
 | .opt x k, o => match x with
  | some a => (k a).run o
  | none => none
 | .fail, _ => none
def HM.log {α : Type} : HM α → ah7 → List Nat × List Nat
 | .ret _, _ => ([], [])
 | .get n k, o => match o n with
  | some e => let l := (k e).log o; (n :: l.1, l.2)
  | none => ([], [])
 | .put n e k, o => let l := k.log (upd o n e); (l.1, n :: l.2)
 | .need b k, o => if b then k.log o else ([], [])
 | .opt x k, o => match x with
  | some a => (k a).log o
  | none => ([], [])
 | .fail, _ => ([], [])
def bN7 {α : Type} (x : Option α) : HM α := .opt x .ret
def ask (n : Nat) : HM Ent := .get n .ret
def lay (n : Nat) (e : Option Ent) : HM Unit := .put n e (.ret ())
def need (b : Bool) : HM Unit := .need b (.ret ())
inductive Od where
 | t (n : Nat)
 | c (v : Value)
 | f (n : Nat)
 | zr
 | w (n : Nat)
 | g (ss : List ByteArray)
 | nl
 deriving Inhabited
def cv7 (s : ByteArray) : List T := [.v (.string s)]
inductive Opx where
 | mv (x : Od)
 | nilck (x : Od)
 | pick (c a b : Od)
 | bin (op : BinOp) (x y : Od)
 | eqs (neg agg : Bool) (ks : List Nat) (x y : Od)
 | un (op : UnOp) (x : Od)
 | conv (k : IntKind) (x : Od)
 | len (s : Bool) (x : Od)
 | iaddr (e : Nat) (x i : Od)
 | faddr (off : Nat) (x : Od)
 | fld (off sz : Nat) (agg : Bool) (x : Od)
 | sidx (x i : Od)
 | ssl (x : Od) (lo hi : Option Od)
 | sls (e : Nat) (x : Od) (lo hi : Option Od)
 | load (sz : Nat) (agg : Bool) (p : Od)
 | store (ks : List (Option Nat)) (p x : Od)
 | box (k : Nat) (ks : List (Option Nat)) (x : Od)
 | alloc (k : Nat) (z : List T)
 | mks (k : Nat) (z : List T) (n m : Od)
 | lit (k : Nat) (ks : List (Option Nat)) (z : List T) (n : Nat) (ps : List (Nat × Od))
 | build (z : List AV) (ps : List (Nat × Nat × Od))
 | app (k : Nat) (mv : Bool) (a b : Od)
 | call (f : Nat) (xs : List (Bool × Od))
 | calld (f : Od) (xs : List (Bool × Od))
 | mkf (f : Nat) (xs : List Od)
 | ext (x : Od) (i : Nat)
 | bytes (x : Od)
 | frz (op : Opx)
 | ren (m k : Nat) (op : Opx)
 | shut (p : Od) (op : Opx)
 | ldr (sz : Nat) (p : Od)
 | rawl (op : Opx)
 | unr (ns : List Nat) (op : Opx)
 | pfz (j : Nat) (op : Opx)
 | trn (op : Opx)
 | sl3 (e : Nat) (x lo hi mx : Od)
 | slx (e : Nat) (x : Od) (lo hi : Option Od)
 | ain (k : Nat) (a b : Od)
 | clr (k : Nat) (z : List T) (x : Od)
 | mnew
 | mset (n : Nat) (x k v : Od)
 | mget (n : Nat) (x k : Od)
 | mxi (x y : Od)
 | dead
 | opa (n m : Nat) (op : Opx)
 | cla (n : Nat) (op : Opx)
 deriving Inhabited
structure IOp where
 dst : Option Nat
 op : Opx
 g : Option (Nat × Bool)
 deriving Inhabited
inductive IC where
 | skip
 | reg (ops : List IOp)
 | drw (ops : List IOp) (inc : List (Nat × Nat))
 | seq (a b : IC)
 | cond (c : Od) (a b : IC)
 | block (id : Nat) (a : IC)
 | loop (a : IC)
 | exit (id : Nat)
 | ret
 | ghost (cl : List (Nat × Nat × Nat)) (dr : List Nat)
 deriving Inhabited
structure St where
 t : Nat → AV
 o : ah7
abbrev Tm := Nat → AV
def aA7 (t : Tm) (d : Option Nat) (x : AV) : Tm := match d with
 | some d => fun i => if i = d then x else t i
 | none => t
def vY7 : Value → AV
 | .slice none 0 0 => .nil
 | .agg cs => .agg (cs.toList.map fun | .slice none 0 0 => .nil | x => .v x)
 | x => .v x
def vZ7 : AV → AV
 | .raw _ _ rows => .ro rows
 | x => x
def Ce7 : AV → AV
 | .agg cs => .agg (cs.map vZ7)
 | x => vZ7 x
def ev (t : Tm) : Od → AV
 | .t n => t n
 | .c v => vY7 v
 | .f n => .fn n []
 | .zr => .ro []
 | .w n => Ce7 (t n)
 | .g ss => .rptr [.sl false 1 (ss.map cv7)]
 | .nl => .v (.slice none 0 0)
def rX7 : BinOp → Value → Value → Option Value
 | .add, .int k a, .int k' b => if k = k' then some (.int k (k.wrap (a + b))) else none
 | .sub, .int k a, .int k' b => if k = k' then some (.int k (k.wrap (a - b))) else none
 | .mul, .int k a, .int k' b => if k = k' then some (.int k (k.wrap (a * b))) else none
 | .quo, .int k a, .int k' b => if k = k' ∧ b ≠ 0 then some (.int k (k.wrap (a.tdiv b))) else none
 | .rem, .int k a, .int k' b => if k = k' ∧ b ≠ 0 then some (.int k (a.tmod b)) else none
 | .xor, .int k a, .int k' b => if k = k' then some (.int k (k.wrap (BitVec.ofInt k.bits a ^^^ BitVec.ofInt k.bits b).toNat)) else none
 | .and, .int k a, .int k' b => if k = k' then some (.int k (k.wrap (BitVec.ofInt k.bits a &&& BitVec.ofInt k.bits b).toNat)) else none
 | .shl, .int k a, .int _ b => if 0 ≤ b then some (.int k (k.wrap (a * 2 ^ (min b.toNat k.bits)))) else none
 | .shr, .int k a, .int _ b => if 0 ≤ b then some (.int k (a.fdiv (2 ^ (min b.toNat k.bits)))) else none
 | .eql, .int k a, .int k' b => if k = k' then some (.bool (a == b)) else none
 | .neq, .int k a, .int k' b => if k = k' then some (.bool (a != b)) else none
 | .lss, .int k a, .int k' b => if k = k' then some (.bool (decide (a < b))) else none
 | .leq, .int k a, .int k' b => if k = k' then some (.bool (decide (a ≤ b))) else none
 | .gtr, .int k a, .int k' b => if k = k' then some (.bool (decide (a > b))) else none
 | .geq, .int k a, .int k' b => if k = k' then some (.bool (decide (a ≥ b))) else none
 | .add, .string a, .string b => if a.size + b.size ≤ 9223372036854775807 then some (.string (a ++ b)) else none
 | .eql, .string a, .string b => some (.bool (a.toList == b.toList))
 | .neq, .string a, .string b => some (.bool (!(a.toList == b.toList)))
 | .lss, .string a, .string b => some (.bool (Op.bytesLess a.toList b.toList))
 | .leq, .string a, .string b => some (.bool (Op.bytesLess a.toList b.toList || a.toList == b.toList))
 | .gtr, .string a, .string b => some (.bool (!(Op.bytesLess a.toList b.toList || a.toList == b.toList)))
 | .geq, .string a, .string b => some (.bool (!Op.bytesLess a.toList b.toList))
 | _, _, _ => none
def eq1 : Nat → Value → Value → Option Bool
 | 0, .int k a, .int k' b => if k = k' then some (a == b) else none
 | 1, .bool a, .bool b => some (a == b)
 | 2, .string a, .string b => some (a == b)
 | _, _, _ => none
def eqL : List Nat → List AV → List AV → Option Bool
 | [], [], [] => some true
 | k :: ks, .v a :: as, .v b :: bs => match eq1 k a b, eqL ks as bs with
  | some p, some q => some (p && q)
  | _, _ => none
 | _, _, _ => none
def Fq7 (agg : Bool) (ks : List Nat) : AV → AV → Option Bool
 | .v a, .v b => match agg, ks with
  | false, [k] => eq1 k a b
  | _, _ => none
 | .agg as, .agg bs => if agg then eqL ks as bs else none
 | _, _ => none
def pun : UnOp → Value → Option Value
 | .neg, .int k n => some (.int k (k.wrap (0 - n)))
 | .not, .bool b => some (.bool !b)
 | _, _ => none
def g37 : AV → List AV
 | .agg cs => cs
 | x => [x]
def asI : AV → Option Int
 | .v (.int _ n) => some n
 | _ => none
def ki7 : Option AV → Option (Option Int)
 | none => some none
 | some x => (asI x).map some
def PO7 : T → Option AV
 | .v x => some (.v x)
 | .sl false _ rows => some (.ro rows)
 | _ => none
def me7 : List T → Option (List AV)
 | [] => some []
 | c :: cs => match PO7 c, me7 cs with
  | some x, some xs => some (x :: xs)
  | _, _ => none
def one (agg : Bool) (cs : List AV) : Option AV := if agg then some (.agg cs) else match cs with
 | [x] => some x
 | _ => none
def bL7 {α : Type} : List α → Nat → List α → List α
 | xs, _, [] => xs
 | xs, p, y :: ys => bL7 (xs.set p y) (p + 1) ys
def ga7 : AV → Bool
 | .v x => x.oneCell'
 | .ro _ => true
 | .raw .. => true
 | .nil => true
 | .ref .. => true
 | _ => false
def bld (t : Tm) : List (Nat × Nat × Od) → List AV → Option (List AV)
 | [], cs => some cs
 | (off, sz, x) :: ps, cs => if (g37 (ev t x)).length = sz ∧ off + sz ≤ cs.length ∧ (g37 (ev t x)).all ga7 = true then bld t ps (bL7 cs off (g37 (ev t x))) else none
def evp (t : Tm) : Opx → Option AV
 | .mv x => some (ev t x)
 | .nilck x => match ev t x with
  | .ptr n b k r c => some (.ptr n b k r c)
  | .rptr cs => some (.rptr cs)
  | _ => none
 | .pick c a b => match ev t c with
  | .v (.bool p) => some (if p then ev t a else ev t b)
  | _ => none
 | .bin op x y => match ev t x, ev t y with
  | .v a, .v b => (rX7 op a b).map .v
  | _, _ => none
 | .eqs neg agg ks x y => (Fq7 agg ks (ev t x) (ev t y)).map fun p => .v (.bool (if neg then !p else p))
 | .un op x => match ev t x with
  | .v a => (pun op a).map .v
  | _ => none
 | .mxi x y => match ev t x, ev t y with
  | .v (.int k a), .v (.int k' b) => if k = k' then some (.v (.int k (max a b))) else none
  | _, _ => none
 | .conv k x => match ev t x with
  | .v (.int _ n) => some (.v (.int k (k.wrap n)))
  | _ => none
 | .len s x => match s, ev t x with
  | true, .v (.string s) => some (.v (.int .i64 s.size))
  | false, .ro rows => some (.v (.int .i64 rows.length))
  | false, .raw _ _ rows => some (.v (.int .i64 rows.length))
  | false, .nil => some (.v (.int .i64 0))
  | false, .ref _ _ _ _ len _ => some (.v (.int .i64 len))
  | _, _ => none
 | .iaddr e x i => match ev t x, asI (ev t i) with
  | .ro rows, some i => if 0 ≤ i ∧ i.toNat < rows.length ∧ (rows.getD i.toNat []).length = e then some (.rptr (rows.getD i.toNat [])) else none
  | .ref n b cap off len k, some i => if 0 ≤ i ∧ i.toNat < len ∧ e = esz k then some (.ptr n b k (off + i.toNat) 0) else none
  | _, _ => none
 | .faddr off x => match ev t x with
  | .rptr cs => some (.rptr (cs.drop off))
  | .ptr n b k r c => some (.ptr n b k r (c + off))
  | _ => none
 | .fld off sz agg x => match ev t x with
  | .agg cs => if off + sz ≤ cs.length then one agg ((cs.drop off).take sz) else none
  | _ => none
 | .sidx x i => match ev t x, asI (ev t i) with
  | .v (.string s), some i => if h : i.toNat < s.size then (if 0 ≤ i then some (.v (.int .u8 (s[i.toNat]'h).toNat)) else none) else none
  | _, _ => none
 | .ssl x lo hi => match ev t x, ki7 (lo.map (ev t)), ki7 (hi.map (ev t)) with
  | .v (.string s), some l, some h =>
   if 0 ≤ l.getD 0 ∧ l.getD 0 ≤ h.getD s.size ∧ h.getD s.size ≤ s.size then some (.v (.string (s.extract (l.getD 0).toNat (h.getD s.size).toNat))) else none
  | _, _, _ => none
 | .sls e x lo hi => match ev t x, ki7 (lo.map (ev t)), ki7 (hi.map (ev t)) with
  | .ro rows, some l, some h =>
   if (0 ≤ l.getD 0 ∧ l.getD 0 ≤ h.getD rows.length ∧ h.getD rows.length ≤ rows.length) ∧ (rows.head?.map List.length).getD e = e then some (.ro ((rows.take (h.getD rows.length).toNat).drop (l.getD 0).toNat)) else none
  | .raw A cap rows, some none, some h =>
   if (0 ≤ h.getD rows.length ∧ h.getD rows.length ≤ rows.length) then some (.raw A cap (rows.take (h.getD rows.length).toNat)) else none
  | .raw A cap rows, some (some l), some h =>
   if (0 ≤ l ∧ l ≤ h.getD rows.length ∧ h.getD rows.length ≤ rows.length) ∧ (rows.head?.map List.length).getD e = e then some (.raw (if cap = l.toNat then A else A.map (·.add (l.toNat * e))) (cap - l.toNat) ((rows.take (h.getD rows.length).toNat).drop l.toNat)) else none
  | .ref n b cap off len k, some l, some h =>
   if e = esz k ∧ 0 ≤ l.getD 0 ∧ l.getD 0 ≤ h.getD len ∧ h.getD len ≤ len then some (.ref n b cap (off + (l.getD 0).toNat) ((h.getD len).toNat - (l.getD 0).toNat) k) else none
  | _, _, _ => none
 | .sl3 e x lo hi mx => match ev t x, asI (ev t lo), asI (ev t hi), asI (ev t mx) with
  | .ref n b cap off len k, some l, some h, some m => if e = esz k ∧ 0 ≤ l ∧ l ≤ h ∧ h ≤ m ∧ m ≤ len then some .junk else none
  | _, _, _, _ => none
 | .load sz agg p => match ev t p with
  | .rptr cs => if sz ≤ cs.length then (me7 (cs.take sz)).bind (one agg) else none
  | _ => none
 | .build z ps => (bld t ps z).map .agg
 | .mkf f xs => some (.fn f (xs.map (ev t)))
 | .ext x i => match ev t x with
  | .tup cs => cs[i]?
  | _ => none
 | _ => none
abbrev Ch := Nat → Option Nat × Nat
mutual
def erT : T → Option T
 | .v x => some (.v x)
 | .sl _ k rows => (erR rows).map (.sl false (k % 16))
 | _ => none
def erL : List T → Option (List T)
 | [] => some []
 | c :: cs => match erT c, erL cs with
  | some x, some xs => some (x :: xs)
  | _, _ => none
def erR : List (List T) → Option (List (List T))
 | [] => some []
 | r :: rs => match erL r, erR rs with
  | some x, some xs => some (x :: xs)
  | _, _ => none
end
def FB7 : T → HM T
 | .al n b cap off len k => do
  let e ← ask n
  need (decide (e.b = b) && decide (e.k = k) && decide (off + len ≤ e.rows.length) && !e.box)
  bN7 ((erR ((e.rows.drop off).take len)).map (.sl false (k % 16)))
 | c => bN7 (erT c)
def rY7 : List T → HM (List T)
 | [] => .ret []
 | c :: cs => do
  let x ← FB7 c
  let xs ← rY7 cs
  .ret (x :: xs)
def uM7 (b : Option Nat) : Option Addr := b.map fun g => ⟨g, 0, none⟩
mutual
def bor : AV → HM AV
 | .v x => .ret (.v x)
 | .ro rows => .ret (.ro rows)
 | .raw A cap rows => .ret (.raw A cap rows)
 | .lref n b cap len k => do
  let e ← ask n
  need (decide (e.b = b) && decide (e.k = k) && decide (e.cap = cap) && decide (len = e.rows.length) && !e.box)
  bN7 ((erR e.rows).map (.raw (uM7 b) cap))
 | .nil => .ret (.ro [])
 | .ref n b cap off len k => do
  let e ← ask n
  need (decide (e.b = b) && decide (e.k = k) && decide (off + len ≤ e.rows.length) && !e.box)
  bN7 ((erR ((e.rows.drop off).take len)).map .ro)
 | .ptr n b k r c => do
  let e ← ask n
  need (decide (e.b = b) && decide (e.k = k) && decide (r < e.rows.length))
  let cs ← rY7 ((e.rows.getD r []).drop c)
  .ret (.rptr cs)
 | .rptr cs => .ret (.rptr cs)
 | .agg cs => do
  let xs ← v07 cs
  .ret (.agg xs)
 | .fn f caps => do
  let xs ← v07 caps
  .ret (.fn f xs)
 | _ => .fail
def v07 : List AV → HM (List AV)
 | [] => .ret []
 | c :: cs => do
  let x ← bor c
  let xs ← v07 cs
  .ret (x :: xs)
end
def cn (host j : Nat) : Nat := 1000000 + host * 16 + j
def toT (box : Bool) (host j : Nat) : Option Nat → AV → HM T
 | none, .v x => do need x.oneCell'; .ret (.v x)
 | some k, .ro rows => .ret (.sl false (k % 16) rows)
 | some k, .raw A cap rows => match box with
  | true => .ret (.rw A cap rows)
  | false => .ret (.sl false (k % 16) rows)
 | some k, .nil => match box with
  | true => do
   lay (cn host j) (some ⟨none, 0, k, false, []⟩)
   .ret (.al (cn host j) none 0 0 0 k)
  | false => .ret (.sl true k [])
 | some k', .ref n b cap off len k => match box with
  | true => do
   let e ← ask n
   need (decide (e.b = b) && decide (e.cap = cap) && !e.box && decide (n ≠ host) && decide (e.k = k))
   lay n none
   lay (cn host j) (some e)
   .ret (.al (cn host j) b cap off len k)
  | false => do
   let e ← ask n
   need (decide (e.b = b) && decide (e.cap = cap) && decide (off = 0) && decide (len ≤ e.rows.length) && !e.box && decide (n ≠ host) && decide (e.k = k) && decide (k = k'))
   lay n none
   .ret (.sl true k (e.rows.take len))
 | _, _ => .fail
def s87 (box : Bool) (host : Nat) : Nat → List (Option Nat) → List AV → HM (List T)
 | _, [], [] => .ret []
 | j, k :: ks, x :: xs => do
  let c ← toT box host j k x
  let cs ← s87 box host (j + 1) ks xs
  .ret (c :: cs)
 | _, _, _ => .fail
def uN7 (host : Nat) : Nat → List T → HM (List T)
 | _, [] => .ret []
 | j, c :: cs => do
  let c' ← (match c with
   | .sl true k [] => do
    lay (cn host j) (some ⟨none, 0, k, false, []⟩)
    .ret (.al (cn host j) none 0 0 0 k)
   | c => (.ret c : HM T))
  let cs' ← uN7 host (j + 1) cs
  .ret (c' :: cs')
def hM7 (d : Nat) (ch : Ch) : Nat → List T → HM (List AV × List T)
 | _, [] => .ret ([], [])
 | j, c :: cs => do
  let (x, c') ← (match c with
   | .v x => (.ret (.v x, .v x) : HM (AV × T))
   | .sl false k rows => .ret (.ro rows, .sl false k rows)
   | .al n b cap off len k => .ret (.ref n b cap off len k, .al n b cap off len k)
   | .sl true k rows => do
    lay (d * 8 + j) (some { b := (ch j).1, cap := (ch j).2, k := k, box := false, rows := rows })
    .ret (.ref (d * 8 + j) (ch j).1 (ch j).2 0 rows.length k, .al (d * 8 + j) (ch j).1 (ch j).2 0 rows.length k)
   | .bx k row => .fail
   | .rw A cap rows => .ret (.ro rows, .rw A cap rows)
   | .junk => .ret (.junk, .junk))
  let (xs, cs') ← hM7 d ch (j + 1) cs
  .ret (x :: xs, c' :: cs')
def v17 : List T → Bool
 | [] => false
 | .sl true _ _ :: _ => true
 | .bx _ _ :: _ => true
 | _ :: cs => v17 cs
def uO7 : T → AV
 | .v x => .v x
 | .sl _ _ rows => .ro rows
 | .al n b cap off len k => .ref n b cap off len k
 | .bx _ _ => .junk
 | .rw _ _ rows => .ro rows
 | .junk => .junk
def n07 (host : Nat) (ks : List (Option Nat)) (t : Tm) : List (Nat × Od) → Rows → HM Rows
 | [], rows => .ret rows
 | (i, x) :: ps, rows => do
  need (decide (i < rows.length))
  let cs ← s87 false host 0 ks (g37 (ev t x))
  n07 host ks t ps (rows.set i cs)
def eZ7 (rows : Rows) : Bool := rows.all fun r => r.all fun | .v _ => true | .sl false _ _ => true | _ => false
def jz7 (k : Nat) (mv : Bool) (host : Option Nat) : AV → HM Rows
 | .nil => .ret []
 | .ro rows => do need (eZ7 rows && decide ((rows.head?.map List.length).getD (esz k) = esz k)); .ret rows
 | .ref n b cap off len k' => do
  let e ← ask n
  need (decide (e.b = b) && decide (e.cap = cap) && decide (e.k = k) && decide (k' = k) && decide (off + len ≤ e.rows.length) && !e.box && (!mv || decide (host ≠ some n)))
  if mv then do lay n none; .ret ((e.rows.drop off).take len) else do need (eZ7 ((e.rows.drop off).take len)); .ret ((e.rows.drop off).take len)
 | _ => .fail
def uP7 : Nat := 4294967296
def pd7 : T → HM T
 | .al n b cap off len k => do
  let e ← ask n
  need (decide (e.b = b) && decide (e.cap = cap) && decide (off = 0) && decide (len ≤ e.rows.length) && !e.box && decide (e.k = k))
  lay n none
  .ret (.sl true k (e.rows.take len))
 | c => .ret c
def ca7 : List T → HM (List T)
 | [] => .ret []
 | c :: cs => do
  let x ← pd7 c
  let xs ← ca7 cs
  .ret (x :: xs)
structure In where
 n : Nat
 e : Ent
def ce7 (i : Nat) : List AV → HM (List AV × List In)
 | [] => .ret ([], [])
 | .ref n b cap off len k :: cs => do
  let e ← ask n
  need (decide (e.b = b) && decide (e.cap = cap) && decide (e.k = k) && decide (off = 0) && decide (len = e.rows.length) && !e.box)
  lay n none
  let (xs, ins) ← ce7 (i + 1) cs
  .ret (.io i len k :: xs, ⟨n, e⟩ :: ins)
 | .ptr n b k r c :: cs => do
  let e ← ask n
  need (decide (e.b = b) && decide (e.k = k) && decide (e.rows.length = 1) && decide (r = 0) && decide (c = 0) && e.box)
  lay n none
  let row ← ca7 (e.rows.getD 0 [])
  let (xs, ins) ← ce7 (i + 1) cs
  .ret (.pio i k :: xs, ⟨n, { e with rows := [row] }⟩ :: ins)
 | .nil :: cs => do
  let (xs, ins) ← ce7 i cs
  .ret (.ro [] :: xs, ins)
 | .v x :: cs => do
  let (xs, ins) ← ce7 i cs
  .ret (.v x :: xs, ins)
 | _ :: _ => .fail
def hN7 : AV → Bool
 | .agg _ => true
 | _ => false
def iV7 (t : Tm) : Nat → List (Bool × Od) → HM (List (Option AV) × List In)
 | _, [] => .ret ([], [])
 | i, (m, x) :: xs => if m then do
   let (ys, ins) ← ce7 i (g37 (ev t x))
   let y ← bN7 (one (hN7 (ev t x)) ys)
   let (zs, more) ← iV7 t (i + ins.length) xs
   .ret (some y :: zs, ins ++ more)
  else do
   let (zs, more) ← iV7 t i xs
   .ret (none :: zs, more)
def gX7 (t : Tm) : List (Bool × Od) → List (Option AV) → HM (List AV)
 | [], [] => .ret []
 | (_, x) :: xs, y :: ys => do
  let z ← (match y with | some y => (.ret y : HM AV) | none => bor (ev t x))
  let zs ← gX7 t xs ys
  .ret (z :: zs)
 | _, _ => .fail
def args (t : Tm) (xs : List (Bool × Od)) : HM (List AV × List In) := do
 let (ys, ins) ← iV7 t 0 xs
 let zs ← gX7 t xs ys
 .ret (zs, ins)
mutual
def frz : AV → Bool
 | .v _ => true
 | .ro _ => true
 | .raw .. => true
 | .rptr _ => true
 | .nil => true
 | .agg cs => uQ7 cs
 | .fn _ cs => uQ7 cs
 | _ => false
def uQ7 : List AV → Bool
 | [] => true
 | c :: cs => frz c && uQ7 cs
end
def f97 (t : Tm) (xs : List (Bool × Od)) : Bool := xs.all fun x => x.1 || frz (ev t x.2)
mutual
def ze7 : T → Bool
 | .v _ => true
 | .sl true _ rows => dW7 rows
 | .sl false _ rows => rows.isEmpty
 | _ => false
def e07 : List T → Bool
 | [] => true
 | c :: cs => ze7 c && e07 cs
def dW7 : List (List T) → Bool
 | [] => true
 | r :: rs => e07 r && dW7 rs
end
def f17 : Option Rows → Bool
 | some r => dW7 r
 | none => true
structure Ans where
 res : List (Bool × List T)
 outs : List (Option Rows)
abbrev Gam := Nat → List AV → List (Bool × Nat × Rows) → Option Ans
def eI7 (d : Nat) (ch : Ch) : Nat → List T → HM (List AV)
 | _, [] => .ret []
 | j, c :: cs => do
  let x ← (match c with
   | .v x => (.ret (.v x) : HM AV)
   | .sl false _ rows => .ret (.ro rows)
   | .sl true k rows => do
    lay (d * 8 + j) (some { b := (ch j).1, cap := (ch j).2, k := k, box := false, rows := rows })
    .ret (.ref (d * 8 + j) (ch j).1 (ch j).2 0 rows.length k)
   | .bx k row => do
    lay (d * 8 + j) (some { b := (ch j).1, cap := 1, k := k, box := true, rows := [row] })
    .ret (.ptr (d * 8 + j) (ch j).1 k 0 0)
   | _ => .ret .junk)
  let xs ← eI7 d ch (j + 1) cs
  .ret (x :: xs)
def bu7 (d : Nat) (ch : Ch) : Nat → List (Bool × List T) → HM (List AV)
 | _, [] => .ret []
 | j, (agg, cs) :: rs => do
  let xs ← eI7 d ch j cs
  let x ← bN7 (one agg xs)
  let ys ← bu7 d ch (j + cs.length) rs
  .ret (x :: ys)
def v27 : T → T → T
 | .rw A cap rows, .v (.slice A' n c) => if A' = A ∧ n = rows.length ∧ c = cap then .rw A cap rows else .v (.slice A' n c)
 | _, c => c
def iW7 : List T → List T → List T
 | a :: as, b :: bs => v27 a b :: iW7 as bs
 | _, bs => bs
def v37 (e : Ent) (r : Rows) : Rows := match e.box, e.rows, r with
 | true, [a], [b] => [iW7 a b]
 | _, _, r => r
def mf7 : List In → List (Option Rows) → HM Unit
 | [], [] => .ret ()
 | i :: is, some r :: rs => do
  lay i.n (some { i.e with rows := v37 i.e r })
  mf7 is rs
 | _ :: is, none :: rs => mf7 is rs
 | _, _ => .fail
def jA7 : List AV → AV
 | [y] => y
 | ys => .tup ys
def tail (ins : List In) (r : Ans) (d : Nat) (ch : Ch) : HM AV := do
 mf7 ins r.outs
 let ys ← bu7 d ch 0 r.res
 .ret (jA7 ys)
mutual
def e17 : AV → HM AV
 | .v x => .ret (.v x)
 | .ro rows => .ret (.ro rows)
 | .raw _ _ rows => .ret (.ro rows)
 | .nil => .ret (.ro [])
 | .ref n b cap off len k => do
  let e ← ask n
  need (decide (e.b = b) && decide (e.k = k) && decide (off + len ≤ e.rows.length) && !e.box)
  lay n none
  .opt (erR ((e.rows.drop off).take len)) fun r => .ret (.ro r)
 | .agg cs => do
  let xs ← rZ7 cs
  .ret (.agg xs)
 | .tup cs => do
  let xs ← rZ7 cs
  .ret (.tup xs)
 | _ => .fail
def rZ7 : List AV → HM (List AV)
 | [] => .ret []
 | c :: cs => do
  let x ← e17 c
  let xs ← rZ7 cs
  .ret (x :: xs)
end
def Bl7 : Nat → List AV → HM (List AV)
 | _, [] => .ret []
 | m, .ref n b cap off len k :: cs => do
  let e ← ask n
  lay n none
  lay m (some e)
  let xs ← Bl7 (m + 1) cs
  .ret (.ref m b cap off len k :: xs)
 | m, x :: cs => do
  let xs ← Bl7 (m + 1) cs
  .ret (x :: xs)
def kj7 (m k0 : Nat) : AV → HM AV
 | .nil => do
  lay m (some ⟨none, 0, k0, false, []⟩)
  .ret (.ref m none 0 0 0 k0)
 | .ref n b cap off len k => do
  let e ← ask n
  lay n none
  lay m (some e)
  .ret (.ref m b cap off len k)
 | .agg cs => do
  let xs ← Bl7 m cs
  .ret (.agg xs)
 | _ => .fail
def mg7 (p x : AV) : HM AV := match p with
 | .ptr n b k r c => do
  let e ← ask n
  need (decide (r < e.rows.length))
  lay n none
  let row ← ca7 (e.rows.getD r [])
  lay n (some { e with rows := e.rows.set r row })
  .ret x
 | _ => .fail
def n17 : List T → Option (List AV)
 | [] => some []
 | .v x :: cs => (n17 cs).map (.v x :: ·)
 | .rw A cap rows :: cs => (n17 cs).map (.v (.slice A rows.length cap) :: ·)
 | _ => none
def uR7 : AV → AV
 | .ref n b cap 0 len k => .lref n b cap len k
 | x => x
def r07 : AV → AV
 | .agg cs => .agg (cs.map uR7)
 | x => uR7 x
def Mm7 (n : Nat) : AV → HM AV
 | .v (.slice A len cap) => do
  let e ← ask n
  need (decide (A = uM7 e.b) && decide (cap = e.cap) && decide (len = e.rows.length) && !e.box)
  .ret (.ref n e.b e.cap 0 len e.k)
 | x => .ret x
def Cf7 : List Nat → List AV → HM (List AV)
 | n :: ns, x :: xs => do
  let y ← Mm7 n x
  let ys ← Cf7 ns xs
  .ret (y :: ys)
 | _, xs => .ret xs
def mb7 (ns : List Nat) : AV → HM AV
 | .agg cs => do
  let xs ← Cf7 ns cs
  .ret (.agg xs)
 | x => .ret x
def pe7 (j : Nat) (row : List T) : Option (List T) := if 16 ≤ j then erL row else match row[j]? with
 | some c => (erT c).map fun c' => row.set j c'
 | none => none
def dr7 (j : Nat) : Rows → Option Rows
 | [] => some []
 | r :: rs => match pe7 j r, dr7 j rs with
  | some x, some xs => some (x :: xs)
  | _, _ => none
def j47 (j : Nat) (x : AV) : HM AV := match g37 x with
 | .ref n b cap off len k :: _ => do
  let e ← ask n
  need (decide (e.b = b) && decide (e.k = k) && !e.box)
  let rows ← bN7 (dr7 j e.rows)
  lay n (some { e with rows := rows })
  .ret x
 | _ => .fail
def mc7 (x : AV) : HM AV := match x with
 | .ref n b cap off len k => do
  let e ← ask n
  need (decide (e.b = b) && decide (e.k = k) && decide (off = 0) && decide (len ≤ e.rows.length) && !e.box)
  lay n (some { e with rows := e.rows.take len })
  .ret x
 | _ => .fail
def kG7 (p : Int × Int) : List T := [.v (.int .i64 p.1), .v (.int .i64 p.2)]
def cw7 (g : Nat) (es : List (Int × Int)) : Rows := [.v (.map (some g))] :: [] :: es.map kG7
def v87 : Rows → Option (List (Int × Int))
 | [] => some []
 | [.v (.int .i64 a), .v (.int .i64 b)] :: rs => (v87 rs).map ((a, b) :: ·)
 | _ => none
def v97 (g : Nat) : Rows → Option (List (Int × Int))
 | [.v (.map (some g'))] :: [] :: rs => if g = g' then v87 rs else none
 | _ => none
def vM7 : List (Int × Int) → Int → Int → List (Int × Int)
 | [], k, v => [(k, v)]
 | p :: r, k, v => if k = p.1 then (k, v) :: r else p :: vM7 r k v
def mget : List (Int × Int) → Int → Int
 | [], _ => 0
 | p :: r, k => if k = p.1 then p.2 else mget r k
def zf7 : AV → Option Nat
 | .v (.map g) => g
 | _ => none
def asK : AV → Option Int
 | .v (.int .i64 n) => some n
 | _ => none
def mH7 : Rows → Option (List Int)
 | [] => some []
 | [.v (.int .u8 n)] :: rs => (mH7 rs).map (n :: ·)
 | _ => none
def Mn7 (ns : List Int) : ByteArray := ns.foldl (fun r n => r.push (UInt8.ofNat n.toNat)) ByteArray.empty
def Fr7 (n m : Nat) (ch : Ch) (x : AV) : HM AV := do
 let e ← ask n
 need (e.b.isSome && decide (esz e.k = 1))
 lay n none
 let p ← hM7 m ch 0 e.rows.flatten
 lay n (some { e with rows := p.2.map fun c => [c] })
 .ret x
def FC7 (n : Nat) (x : AV) : HM AV := do
 let e ← ask n
 need (e.b.isSome && decide (esz e.k = 1))
 lay n none
 let cs ← ca7 e.rows.flatten
 lay n (some { e with rows := cs.map fun c => [c] })
 .ret x
def aq7 (G : Gam) (d : Nat) (ch : Ch) (t : Tm) : Opx → HM AV
 | .load sz agg p => match ev t p with
  | .rptr cs => if sz ≤ cs.length then bN7 ((me7 (cs.take sz)).bind (one agg)) else .fail
  | .ptr n b k r c => do
   let e ← ask n
   need (decide (e.b = b) && decide (e.k = k) && decide (r < e.rows.length) && decide (c + sz ≤ (e.rows.getD r []).length))
   match v17 (((e.rows.getD r []).drop c).take sz) with
   | false => bN7 (one agg ((((e.rows.getD r []).drop c).take sz).map uO7))
   | true => do
    let (xs, cs) ← hM7 d ch 0 (((e.rows.getD r []).drop c).take sz)
    let y ← bN7 (one agg xs)
    lay n (some { e with rows := e.rows.set r (bL7 (e.rows.getD r []) c cs) })
    .ret y
  | _ => .fail
 | .store ks p x => match ev t p with
  | .ptr n b k r c => do
   let e0 ← ask n
   let cs ← s87 e0.box n c ks (g37 (ev t x))
   let e ← ask n
   need (decide (e.b = b) && decide (e.k = k) && decide (r < e.rows.length) && decide (c + ks.length ≤ (e.rows.getD r []).length))
   lay n (some { e with rows := e.rows.set r (bL7 (e.rows.getD r []) c cs) })
   .ret .junk
  | _ => .fail
 | .box k ks x => do
  let cs ← s87 true (d * 8) 0 ks (g37 (ev t x))
  lay (d * 8) (some { b := some ((ch 0).1.getD 0), cap := 1, k := k, box := true, rows := [cs] })
  .ret (.ptr (d * 8) (some ((ch 0).1.getD 0)) k 0 0)
 | .alloc k z => do
  let cs ← uN7 (d * 8) 0 z
  lay (d * 8) (some { b := some ((ch 0).1.getD 0), cap := 1, k := k, box := true, rows := [cs] })
  .ret (.ptr (d * 8) (some ((ch 0).1.getD 0)) k 0 0)
 | .mks k z n m => match asI (ev t n), asI (ev t m) with
  | some n, some m => do
   need (decide (0 ≤ n) && decide (n = m) && decide (n.toNat ≤ uP7))
   lay (d * 8) (some { b := some ((ch 0).1.getD 0), cap := n.toNat, k := k, box := false, rows := List.replicate n.toNat z })
   .ret (.ref (d * 8) (some ((ch 0).1.getD 0)) n.toNat 0 n.toNat k)
  | _, _ => .fail
 | .lit k ks z n ps => do
  let rows ← n07 (d * 8) ks t ps (List.replicate n z)
  lay (d * 8) (some { b := some ((ch 0).1.getD 0), cap := n, k := k, box := false, rows := rows })
  .ret (.ref (d * 8) (some ((ch 0).1.getD 0)) n 0 n k)
 | .app k mv a b => match ev t a with
  | .nil => do
   let ys ← jz7 k mv none (ev t b)
   need (decide (ys.length ≤ uP7))
   lay (d * 8) (some { b := (ch 0).1, cap := (ch 0).2, k := k, box := false, rows := ys })
   .ret (.ref (d * 8) (ch 0).1 (ch 0).2 0 ys.length k)
  | .ref n b' cap off len k' => do
   let ys ← jz7 k mv (some n) (ev t b)
   let e ← ask n
   need (decide (e.b = b') && decide (e.cap = cap) && decide (off = 0) && decide (len ≤ e.rows.length) && !e.box && decide (e.k = k) && decide (k' = k) && decide (len + ys.length ≤ uP7))
   lay n (some { b := (ch 0).1, cap := (ch 0).2, k := k, box := false, rows := e.rows.take len ++ ys })
   .ret (.ref n (ch 0).1 (ch 0).2 0 (len + ys.length) k)
  | _ => .fail
 | .call f xs => do
  let (as, ins) ← args t xs
  let r ← bN7 (G f as (ins.map fun i => (i.e.box, i.e.k, i.e.rows)))
  need (f97 t xs || (dW7 (r.res.map (·.2)) && r.outs.all f17))
  tail ins r d ch
 | .calld f xs => match ev t f with
  | .fn g caps => do
   let (as, ins) ← args t xs
   let cs ← v07 caps
   let r ← bN7 (G g (as ++ cs) (ins.map fun i => (i.e.box, i.e.k, i.e.rows)))
   need ((f97 t xs && uQ7 caps) || (dW7 (r.res.map (·.2)) && r.outs.all f17))
   tail ins r d ch
  | _ => .fail
 | .slx e x lo hi => match ev t x, ki7 (lo.map (ev t)), ki7 (hi.map (ev t)) with
  | .ref n b cap off len k, some l, some h => do
   let en ← ask n
   need (decide (en.b = b) && decide (en.cap = cap) && decide (e = esz k) && decide (0 ≤ l.getD 0) && decide (l.getD 0 ≤ h.getD len) && decide (off + (h.getD len).toNat ≤ en.rows.length) && !en.box)
   .ret (.ref n b cap (off + (l.getD 0).toNat) ((h.getD len).toNat - (l.getD 0).toNat) k)
  | _, _, _ => .fail
 | .ain k a b => match ev t a with
  | .ref n b' cap off len k' => do
   let ys ← jz7 k false (some n) (ev t b)
   let e ← ask n
   need (decide (e.b = b') && decide (e.cap = cap) && decide (off = 0) && !e.box && decide (e.k = k) && decide (k' = k) && decide (len + ys.length ≤ e.rows.length) && eZ7 e.rows && eZ7 ys)
   lay n (some { e with rows := e.rows.take len ++ ys ++ e.rows.drop (len + ys.length) })
   .ret (.ref n b' cap 0 (len + ys.length) k)
  | _ => .fail
 | .clr k z x => match ev t x with
  | .ref n b cap off len k' => do
   let e ← ask n
   need (decide (e.b = b) && decide (e.cap = cap) && !e.box && decide (e.k = k) && decide (k' = k) && decide (off + len ≤ e.rows.length) && eZ7 e.rows && eZ7 [z])
   lay n (some { e with rows := e.rows.take off ++ List.replicate len z ++ e.rows.drop (off + len) })
   .ret .junk
  | _ => .fail
 | .mnew => do
  lay (d * 8) (some { b := none, cap := 0, k := 0, box := true, rows := cw7 ((ch 0).1.getD 0) [] })
  .ret (.v (.map (some ((ch 0).1.getD 0))))
 | .mset n x k v => match zf7 (ev t x), asK (ev t k), asK (ev t v) with
  | some g, some a, some c => do
   let e ← ask n
   need (e.b.isNone && e.box)
   let es ← bN7 (v97 g e.rows)
   lay n (some { e with rows := cw7 g (vM7 es a c) })
   .ret .junk
  | _, _, _ => .fail
 | .mget n x k => match zf7 (ev t x), asK (ev t k) with
  | some g, some a => do
   let e ← ask n
   need (e.b.isNone && e.box)
   let es ← bN7 (v97 g e.rows)
   .ret (.v (.int .i64 (mget es a)))
  | _, _ => .fail
 | .bytes x => match ev t x with
  | .ref n b cap off len k => do
   let e ← ask n
   need (decide (e.b = b) && decide (e.k = k) && decide (off = 0) && decide (len = e.rows.length) && !e.box && decide (esz k = 1))
   let ns ← bN7 (mH7 e.rows)
   .ret (.v (.string (Mn7 ns)))
  | _ => .fail
 | .frz op => do
  let x ← aq7 G d ch t op
  e17 x
 | .ren m k op => do
  let x ← aq7 G d ch t op
  kj7 m k x
 | .shut p op => do
  let x ← aq7 G d ch t op
  mg7 (ev t p) x
 | .ldr sz p => match ev t p with
  | .ptr n b k r c => do
   let e ← ask n
   need (decide (e.b = b) && decide (e.k = k) && decide (r < e.rows.length) && decide (c + sz ≤ (e.rows.getD r []).length))
   bN7 ((n17 (((e.rows.getD r []).drop c).take sz)).map .agg)
  | _ => .fail
 | .rawl op => do
  let x ← aq7 G d ch t op
  .ret (r07 x)
 | .unr ns op => do
  let x ← aq7 G d ch t op
  mb7 ns x
 | .pfz j op => do
  let x ← aq7 G d ch t op
  j47 j x
 | .trn op => do
  let x ← aq7 G d ch t op
  mc7 x
 | .opa n m op => match evp t op with
  | some x => Fr7 n m ch x
  | none => .fail
 | .cla n op => do
  let x ← aq7 G d ch t op
  FC7 n x
 | op => bN7 (evp t op)
inductive Ex where
 | norm
 | exit (id : Nat)
 | ret
def unv : AV := .v (.tuple #[])
def gb7 (t : Tm) : Option (Nat × Bool) → Option Bool
 | none => some true
 | some (g, b) => match t g with
  | .v (.bool p) => some (p == b)
  | .v (.tuple _) => some false
  | _ => none
def Cg7 (G : Gam) (op : IOp) (s : St) (K : St → List Nat × List Nat → Prop) : Prop := ∀ ch : Ch, match (aq7 G (op.dst.getD 0) ch s.t op.op).run s.o with
 | some (x, o) => K ⟨aA7 s.t op.dst x, o⟩ ((aq7 G (op.dst.getD 0) ch s.t op.op).log s.o)
 | none => False
def y07 (G : Gam) (op : IOp) (s : St) (K : St → List Nat × List Nat → Prop) : Prop := match gb7 s.t op.g with
 | some true => match evp s.t op.op with
  | some x => K ⟨aA7 s.t op.dst x, s.o⟩ ([], [])
  | none => Cg7 G op s K
 | some false => K ⟨aA7 s.t op.dst unv, s.o⟩ ([], [])
 | none => False
def stp (G : Gam) (op : IOp) (s : St) (K : St → Prop) : Prop := match gb7 s.t op.g with
 | some true => match evp s.t op.op with
  | some x => K ⟨aA7 s.t op.dst x, s.o⟩
  | none => Cg7 G op s fun s' _ => K s'
 | some false => K ⟨aA7 s.t op.dst unv, s.o⟩
 | none => False
def pa7 (G : Gam) : List IOp → (St → Prop) → St → Prop
 | [], K, s => K s
 | op :: ops, K, s => stp G op s (pa7 G ops K)
def g47 (a b : List Nat × List Nat) : Bool := a.2.all (fun n => !b.1.contains n && !b.2.contains n) && b.2.all (fun n => !a.1.contains n)
def mI7 (inc : List (Nat × Nat)) (L : List (List Nat × List Nat)) : Bool := inc.all fun p => g47 (L.getD p.1 ([], [])) (L.getD p.2 ([], []))
def f27 (G : Gam) (inc : List (Nat × Nat)) : List IOp → List (List Nat × List Nat) → (St → Prop) → St → Prop
 | [], L, K, s => mI7 inc L = true ∧ K s
 | op :: ops, L, K, s => y07 G op s fun s' l => f27 G inc ops (L ++ [l]) K s'
def FD7 (o : ah7) (c : Nat × Nat × Nat) : Option ah7 := match o c.1, o c.2.1 with
 | some e, some h => match (h.rows.getD (c.2.2 / 16) [])[c.2.2 % 16]? with
  | some (.al n b cap off len k) => if n = c.1 ∧ b = e.b ∧ off = 0 ∧ len = e.rows.length ∧ k = e.k ∧ cap = e.cap ∧ e.box = false ∧ c.1 ≠ c.2.1 then some (upd (upd o c.1 none) c.2.1 (some { h with rows := h.rows.set (c.2.2 / 16) ((h.rows.getD (c.2.2 / 16) []).set (c.2.2 % 16) (.sl true k e.rows)) })) else none
  | _ => none
 | _, _ => none
def Bm7 : List (Nat × Nat × Nat) → ah7 → Option ah7
 | [], o => some o
 | c :: cs, o => (FD7 o c).bind (Bm7 cs)
def Mo7 (dr : List Nat) (o : ah7) : ah7 := fun n => if n ∈ dr then none else o n
def awp (G : Gam) : IC → (Ex → St → Prop) → St → Prop
 | .skip, Q, s => Q .norm s
 | .reg ops, Q, s => pa7 G ops (Q .norm) s
 | .drw ops inc, Q, s => f27 G inc ops [] (Q .norm) s
 | .seq a b, Q, s => awp G a (fun e s' => match e with | .norm => awp G b Q s' | e => Q e s') s
 | .cond c a b, Q, s => match ev s.t c with
  | .v (.bool p) => if p then awp G a Q s else awp G b Q s
  | _ => False
 | .block id a, Q, s => awp G a (fun e s' => match e with | .exit i => if i = id then Q .norm s' else Q (.exit i) s' | e => Q e s') s
 | .loop a, Q, s => ∃ I : Nat → St → Prop, (∃ n, I n s) ∧ ∀ n s', I n s' → awp G a (fun e s'' => match e with | .norm => ∃ m, m < n ∧ I m s'' | e => Q e s'') s'
 | .exit id, Q, s => Q (.exit id) s
 | .ret, Q, s => Q .ret s
 | .ghost cl dr, Q, s => match Bm7 cl s.o with
  | some o => Q .norm ⟨s.t, Mo7 dr o⟩
  | none => False
structure IFn where
 ntmps : Nat
 res : List (Nat ⊕ Nat × Nat)
 body : IC
 lc : Nat → Nat
def zg7 : AV → HM T
 | .v x => do need x.oneCell'; .ret (.v x)
 | .ref n b cap off len k => do
  let e ← ask n
  need (decide (e.b = b) && decide (e.cap = cap) && decide (off = 0) && decide (len ≤ e.rows.length) && !e.box && decide (e.k = k))
  lay n none
  .ret (.sl true k (e.rows.take len))
 | .ptr n b k r c => do
  let e ← ask n
  need (decide (e.b = b) && decide (e.k = k) && decide (e.rows.length = 1) && decide (r = 0) && decide (c = 0) && e.box && decide (e.cap = 1))
  lay n none
  let row ← ca7 (e.rows.getD 0 [])
  .ret (.bx k row)
 | _ => .fail
def pf7 : Option Nat → AV → HM T
 | some k, .nil => .ret (.sl true k [])
 | some k, .ro rows => .ret (.sl false (k % 16) rows)
 | some _, .raw A cap rows => .ret (.v (.slice A rows.length cap))
 | _, x => zg7 x
def jB7 : List (Option Nat) → List AV → HM (List T)
 | [], [] => .ret []
 | k :: ks, x :: xs => do
  let c ← pf7 k x
  let cs ← jB7 ks xs
  .ret (c :: cs)
 | _, _ => .fail
def gI7 (t : Tm) : Nat ⊕ Nat × Nat → List (Option Nat) → HM (Bool × List T)
 | .inl n, ks => do
  let cs ← jB7 ks (g37 (t n))
  .ret (hN7 (t n), cs)
 | .inr (n, sz), ks => match t n with
  | .ptr m b k 0 0 => do
   let e ← ask m
   need (decide (e.b = b) && decide (e.k = k) && decide (e.rows.length = 1) && decide ((e.rows.getD 0 []).length = sz) && e.box)
   lay m none
   let cs ← ca7 (e.rows.getD 0 [])
   .ret (true, cs)
  | _ => .fail
def ds7 (t : Tm) : List (Nat ⊕ Nat × Nat) → List (List (Option Nat)) → HM (List (Bool × List T))
 | [], [] => .ret []
 | r :: rs, k :: ks => do
  let x ← gI7 t r k
  let xs ← ds7 t rs ks
  .ret (x :: xs)
 | _, _ => .fail
def wa7 : T → T
 | .rw A cap rows => .v (.slice A rows.length cap)
 | c => c
def lcF : List (Nat × Nat) → Nat → Nat
 | [], i => i * 8
 | (a, b) :: r, i => if a = i then b else lcF r i
def kH7 (bs : Nat → Option Nat × Nat) (lc : Nat → Nat) : Nat → List (Bool × Nat × Rows) → List (Option Rows) → HM (List (Option Rows))
 | _, [], [] => .ret []
 | i, _ :: ins, none :: as => do
  let rs ← kH7 bs lc (i + 1) ins as
  .ret (none :: rs)
 | i, (box, k, _) :: ins, some _ :: as => do
  let e ← ask (lc i)
  need (decide (e.b = (bs i).1) && decide (e.cap = (bs i).2) && decide (e.k = k) && decide (e.box = box) && (!box || decide (e.rows.length = 1)))
  lay (lc i) none
  let rows ← (if box then (do let r ← ca7 (e.rows.getD 0 []); .ret [r.map wa7]) else (.ret e.rows : HM Rows))
  let rs ← kH7 bs lc (i + 1) ins as
  .ret (some rows :: rs)
 | _, _, _ => .fail
def y17 (bs : Nat → Option Nat × Nat) : AV → AV
 | .io i len k => .ref (i * 8) (bs i).1 (bs i).2 0 len k
 | .pio i k => .ptr (i * 8) (bs i).1 k 0 0
 | x => x
def n27 (bs : Nat → Option Nat × Nat) : AV → AV
 | .agg cs => .agg (cs.map (y17 bs))
 | x => y17 bs x
def uS7 (bs : Nat → Option Nat × Nat) (xs : List AV) : Tm := fun i => n27 bs (xs.getD i .junk)
def vN7 (bs : Nat → Option Nat × Nat) (ins : List (Bool × Nat × Rows)) : ah7 := fun n =>
 if n % 8 = 0 then (match ins[n / 8]? with
  | some (box, k, rows) => some { b := (bs (n / 8)).1, cap := (bs (n / 8)).2, k := k, box := box, rows := rows }
  | none => none) else none
def uT7 (f : IFn) (ks : List (List (Option Nat))) (bs : Nat → Option Nat × Nat) (ins : List (Bool × Nat × Rows)) (a : Ans) (s : St) : Prop :=
 match (do let os ← kH7 bs f.lc 0 ins a.outs; let r ← ds7 s.t f.res ks; HM.ret (r, os) : HM (List (Bool × List T) × List (Option Rows))).run s.o with
 | some ((r, os), _) => r = a.res ∧ os = a.outs
 | none => False
def Bn7 (G : Gam) (f : IFn) (ks : List (List (Option Nat))) (xs : List AV) (ins : List (Bool × Nat × Rows)) (a : Ans) : Prop :=
 ∀ bs : Nat → Option Nat × Nat, awp G f.body (fun e s => match e with | .exit _ => False | _ => uT7 f ks bs ins a s) ⟨uS7 bs xs, vN7 bs ins⟩
end Go.Proofs.AM
