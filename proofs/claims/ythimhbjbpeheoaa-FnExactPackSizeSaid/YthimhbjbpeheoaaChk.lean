/- A part of the proof of 'FnExactPackSizeSaid' (Chk): lemmas on an abstract machine for the program's functions. Conditions: none. -/
import Derived.Test.YthimhbjbpeheoaaRel
set_option linter.unusedVariables false
namespace Go.Proofs.AM
open Go.RowKit
variable (P : Program) (tb : Tab)
def cval : Value → Value → Bool
  | .int k a, .int k' b => decide (k = k') && decide (a = b)
  | .bool a, .bool b => a == b
  | .string a, .string b => decide (a.data.toList = b.data.toList)
  | .slice none 0 0, .slice none 0 0 => true
  | _, _ => false
theorem cval_eq {a b : Value} (h : cval a b = true) : a = b := by
  unfold cval at h
  split at h
  · simp at h; rw [h.1, h.2]
  · simp at h; rw [h]
  · rename_i a b
    have h' := of_decide_eq_true h
    congr 1
    exact ByteArray.ext (Array.ext' h')
  · rfl
  · cases h
def chkOd : Operand → Od → Bool
  | .tmp n, .t m => n == m
  | .const v, .c u => cval v u
  | .func f, .f n => tb.fn n == f
  | .const v, .zr => cval v (.slice none 0 0)
  | _, _ => false
def chkOds : List Operand → List Od → Bool
  | [], [] => true
  | o :: os, d :: ds => chkOd tb o d && chkOds os ds
  | _, _ => false
def chkOpt : Option Operand → Option Od → Bool
  | none, none => true
  | some o, some d => chkOd tb o d
  | _, _ => false
def szOf (t : TypeId) : Option Nat := (P.info? t).map (·.size)
def aggOf (t : TypeId) : Option Bool := match P.underlying t with
  | some (.struct _) => some true
  | some (.array ..) => some true
  | some _ => some false
  | none => none
def elOf (t : TypeId) : Option TypeId := match P.underlying t with
  | some (.slice e) => some e
  | _ => none
def fldOf (t : TypeId) (i : Nat) : Option (TypeId × Nat) := match P.underlying t with
  | some (.struct fs) => (fs[i]?).map fun f => (f.type, f.offset)
  | _ => none
def isI (t : TypeId) : Bool := match P.underlying t with
  | some (.int _) => true
  | _ => false
def isS (t : TypeId) : Bool := match P.underlying t with
  | some .string => true
  | _ => false
def eqK (t : TypeId) (k : Nat) : Bool := match P.underlying t with
  | some (.int _) => k == 0
  | some .bool => k == 1
  | some .string => k == 2
  | _ => false
def eqFs : Nat → List Field → List Nat → Bool
  | _, [], [] => true
  | i, f :: fs, k :: ks => f.name != "_" && eqK P f.type k && f.offset == i && eqFs (i + 1) fs ks
  | _, _, _ => false
def eqT (t : TypeId) (agg : Bool) (ks : List Nat) : Bool := if agg then (match P.underlying t with
  | some (.struct fs) => !P.stoodInHeld t && !P.eqGuardType P.depth t && eqFs P 0 fs.toList ks
  | _ => false) else (match ks with
  | [k] => eqK P t k
  | _ => false)
def zcell : Value → T → Bool
  | .slice none 0 0, .sl true _ [] => true
  | a, .v b => cval a b && a.oneCell'
  | _, _ => false
def zcells : List Value → List T → Bool
  | [], [] => true
  | a :: as, b :: bs => zcell a b && zcells as bs
  | _, _ => false
def zAV : List Value → List AV → Bool
  | [], [] => true
  | .slice none 0 0 :: as, .nil :: bs => zAV as bs
  | a :: as, .v b :: bs => cval a b && zAV as bs
  | _, _ => false
def zOf (t : TypeId) : Option (List Value) := ((P.info? t).bind (·.zero)).map (·.cells.toList)
def kOk (e : TypeId) (k : Nat) : Bool := decide (tb.ty k = e) && decide (szOf P e = some (esz k)) && decide (0 < esz k)
def byOk (e : TypeId) : Bool := match P.info? e with
  | some i => decide (0 < i.bytes) && decide (i.bytes ≤ 32768) && (match i.zero with | some z => decide (z.cells.size = i.size) | none => false)
  | none => false
def chkParts (fs : Nat → Option (Nat × Nat)) : List (Nat × Operand) → List (Nat × Nat × Od) → Bool
  | [], [] => true
  | (i, o) :: os, (off, sz, d) :: ds => decide (fs i = some (off, sz)) && chkOd tb o d && chkParts fs os ds
  | _, _ => false
def chkLit : List (Nat × Operand) → List (Nat × Od) → Bool
  | [], [] => true
  | (i, o) :: os, (j, d) :: ds => i == j && chkOd tb o d && chkLit os ds
  | _, _ => false
def funOk (f : FuncId) : Bool := match P.funcs[f]? with
  | some fn => fn.body.isSome && fn.name != "runtime.NumGoroutine"
  | none => false
def chkOp : Op → Opx → Bool
  | .move x, .mv y => chkOd tb x y
  | .assign x, .mv y => chkOd tb x y
  | .nilCheck x, .nilck y => chkOd tb x y
  | .pick c a b, .pick c' a' b' => chkOd tb c c' && chkOd tb a a' && chkOd tb b b'
  | .binOp op t x y _, .bin op' x' y' => decide (op = op') && (isI P t || isS P t) && chkOd tb x x' && chkOd tb y y'
  | .binOp op t x y _, .eqs neg agg ks x' y' => decide (op = if neg then .neq else .eql) && eqT P t agg ks && chkOd tb x x' && chkOd tb y y'
  | .unOp op _ x, .un op' y => decide (op = op') && chkOd tb x y
  | .convert s d x, .conv k y => (match P.underlying s, P.underlying d with | some (.int _), some (.int k') => decide (k = k') | _, _ => false) && chkOd tb x y
  | .call c, .len s y => (match c.callee, c.args.toList, c.argTypes.toList with
    | .builtin .len, [x], [t] => (if s then isS P t else (elOf P t).isSome) && chkOd tb x y
    | _, _, _ => false)
  | .indexAddr t x i, .iaddr e y j => (match elOf P t with | some el => decide (szOf P el = some e) | none => false) && chkOd tb x y && chkOd tb i j
  | .fieldAddr t x i, .faddr off y => (match fldOf P t i with | some (ft, o) => decide (o = off) && decide ((szOf P ft).getD 0 ≠ 0) | none => false) && chkOd tb x y
  | .field t x i, .fld off sz agg y => (match fldOf P t i with | some (ft, o) => decide (o = off) && decide (szOf P ft = some sz) && decide (aggOf P ft = some agg) && (agg || sz == 1) | none => false) && chkOd tb x y
  | .index t x i, .sidx y j => isS P t && chkOd tb x y && chkOd tb i j
  | .slice t x lo hi mx, .ssl y lo' hi' => isS P t && mx.isNone && chkOd tb x y && chkOpt tb lo lo' && chkOpt tb hi hi'
  | .slice t x lo hi mx, .sls e y lo' hi' => (match elOf P t with | some el => decide (szOf P el = some e) | none => false) && mx.isNone && chkOd tb x y && chkOpt tb lo lo' && chkOpt tb hi hi'
  | .load t x, .load sz agg y => decide (szOf P t = some sz) && decide (aggOf P t = some agg) && (agg || sz == 1) && chkOd tb x y
  | .store t x y, .store ks x' y' => decide (szOf P t = some ks.length) && chkOd tb x x' && chkOd tb y y'
  | .box t x, .box k ks y => decide (tb.ty k = t) && decide (ks.length = esz k) && chkOd tb x y
  | .alloc t, .alloc k z => decide (tb.ty k = t) && decide (z.length = esz k) && (match zOf P t with | some vs => zcells vs z | none => false)
  | .makeSlice t n m, .mks k z n' m' => (match elOf P t with | some e => kOk P tb e k && byOk P e && decide (z.length = esz k) && (match zOf P e with | some vs => zcells vs z | none => false) | none => false) && chkOd tb n n' && chkOd tb m m'
  | .buildSlice t n ps, .lit k ks z n' ps' => (match elOf P t with | some e => kOk P tb e k && byOk P e && decide (z.length = esz k) && decide (ks.length = esz k) && (match zOf P e with | some vs => zcells vs z | none => false) | none => false) && decide (n = n') && decide (n ≤ 256) && chkLit tb ps.toList ps'
  | .build t ps, .build z ps' => (match P.underlying t, zOf P t with
    | some (.struct fs), some vs => zAV vs z && chkParts tb (fun i => (fs[i]?).bind fun f => (szOf P f.type).map fun s => (f.offset, s)) ps.toList ps' && fs.toList.all (fun f => (szOf P f.type).isSome)
    | _, _ => false)
  | .call c, .app k mv x y => (match c.callee, c.args.toList, c.argTypes.toList with
    | .builtin .append, [x', y'], [t, t'] => decide (t = t') && (match elOf P t with | some e => kOk P tb e k && byOk P e | none => false) && chkOd tb x' x && chkOd tb y' y
    | _, _, _ => false)
  | .call c, .call f xs => (match c.callee with
    | .value (.func g) => decide (tb.fn f = g) && funOk P g && chkOds tb c.args.toList (xs.map (·.2))
    | _ => false)
  | .call c, .calld f xs => (match c.callee with
    | .value (.tmp g) => chkOd tb (.tmp g) f && chkOds tb c.args.toList (xs.map (·.2))
    | _ => false)
  | .makeFunc fn first caps, .mkf f xs => (match fn with | .func g => decide (tb.fn f = g) && funOk P g | _ => false) && first.isEmpty && chkOds tb caps.toList xs
  | .extract x i, .ext y j => decide (i = j) && chkOd tb x y
  | o, .frz io => chkOp o io
  | o, .ren _ _ io => chkOp o io
  | _, _ => false
end Go.Proofs.AM
