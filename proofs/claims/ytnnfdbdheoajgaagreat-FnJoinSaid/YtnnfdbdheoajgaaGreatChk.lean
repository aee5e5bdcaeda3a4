/- Lemmas of the proof (Chk), on an abstract machine. Conditions: none. -/
import Derived.Test.YtnnfdbdheoajgaaGreatRel
set_option linter.unusedVariables false
namespace Go.Proofs.AM
open Go.RowKit
variable (P : Program) (tb : Tab)
def BM7 : Value → Value → Bool
 | .int k a, .int k' b => decide (k = k') && decide (a = b)
 | .bool a, .bool b => a == b
 | .string a, .string b => decide (a.data.toList = b.data.toList)
 | .slice none 0 0, .slice none 0 0 => true
 | .pointer none, .pointer none => true
 | _, _ => false
theorem k67 {a b : Value} (h : BM7 a b = true) : a = b := by
 unfold BM7 at h
 split at h
 ·simp at h; rw [h.1, h.2]
 ·simp at h; rw [h]
 ·rename_i a b
  have h' := of_decide_eq_true h
  congr 1
  exact ByteArray.ext (Array.ext' h')
 ·rfl
 ·rfl
 ·cases h
def bC7 : Operand → Od → Bool
 | .tmp n, .t m => n == m
 | .const v, .c u => BM7 v u
 | .func f, .f n => tb.fn n == f
 | .tmp n, .w m => n == m
 | .const v, .zr => BM7 v (.slice none 0 0)
 | .const v, .nl => BM7 v (.slice none 0 0)
 | .global n, .g ss => tb.gs.any fun p => p.1 == n && decide (p.2.map (·.data.toList) = ss.map (·.data.toList))
 | _, _ => false
def jQ7 : List Operand → List Od → Bool
 | [], [] => true
 | o :: os, d :: ds => bC7 tb o d && jQ7 os ds
 | _, _ => false
def ic7 : Option Operand → Option Od → Bool
 | none, none => true
 | some o, some d => bC7 tb o d
 | _, _ => false
def g97 (t : TypeId) : Option Nat := (P.info? t).map (·.size)
def sq7 (t : TypeId) : Option Bool := match P.underlying t with
 | some (.struct _) => some true
 | some (.array ..) => some true
 | some _ => some false
 | none => none
def v27 (t : TypeId) : Option TypeId := match P.underlying t with
 | some (.slice e) => some e
 | _ => none
def zB7 (t : TypeId) (i : Nat) : Option (TypeId × Nat) := match P.underlying t with
 | some (.struct fs) => (fs[i]?).map fun f => (f.type, f.offset)
 | _ => none
def isI (t : TypeId) : Bool := match P.underlying t with
 | some (.int _) => true
 | _ => false
def isS (t : TypeId) : Bool := match P.underlying t with
 | some .string => true
 | _ => false
def eqK (t : TypeId) (k : Nat) : Bool := match P.underlying t with
 | some (.int _) => k == 0
 | some .bool => k == 1
 | some .string => k == 2
 | _ => false
def FM7 : Nat → List Field → List Nat → Bool
 | _, [], [] => true
 | i, f :: fs, k :: ks => f.name != "_" && eqK P f.type k && f.offset == i && FM7 (i + 1) fs ks
 | _, _, _ => false
def eqT (t : TypeId) (agg : Bool) (ks : List Nat) : Bool := if agg then (match P.underlying t with
 | some (.struct fs) => !P.stoodInHeld t && !P.eqGuardType P.depth t && FM7 P 0 fs.toList ks
 | _ => false) else (match ks with
 | [k] => eqK P t k
 | _ => false)
def FX7 : Value → T → Bool
 | .slice none 0 0, .sl true _ [] => true
 | .slice none 0 0, .sl false _ [] => true
 | a, .v b => BM7 a b && a.oneCell'
 | _, _ => false
def jR7 : List Value → List T → Bool
 | [], [] => true
 | a :: as, b :: bs => FX7 a b && jR7 as bs
 | _, _ => false
def zAV : List Value → List AV → Bool
 | [], [] => true
 | .slice none 0 0 :: as, .nil :: bs => zAV as bs
 | a :: as, .v b :: bs => BM7 a b && zAV as bs
 | _, _ => false
def zOf (t : TypeId) : Option (List Value) := ((P.info? t).bind (·.zero)).map (·.cells.toList)
def kOk (e : TypeId) (k : Nat) : Bool := decide (tb.ty k = e) && decide (g97 P e = some (esz k)) && decide (0 < esz k)
def CH7 (e : TypeId) : Bool := match P.info? e with
 | some i => decide (0 < i.bytes) && decide (i.bytes ≤ 32768) && (match i.zero with | some z => decide (z.cells.size = i.size) | none => false)
 | none => false
def gQ7 (fs : Nat → Option (Nat × Nat)) : List (Nat × Operand) → List (Nat × Nat × Od) → Bool
 | [], [] => true
 | (i, o) :: os, (off, sz, d) :: ds => decide (fs i = some (off, sz)) && bC7 tb o d && gQ7 fs os ds
 | _, _ => false
def nc7 : List (Nat × Operand) → List (Nat × Od) → Bool
 | [], [] => true
 | (i, o) :: os, (j, d) :: ds => i == j && bC7 tb o d && nc7 os ds
 | _, _ => false
def mN7 (f : FuncId) : Bool := match P.funcs[f]? with
 | some fn => fn.body.isSome && fn.name != "runtime.NumGoroutine"
 | none => false
def aR7 : Op → Opx → Bool
 | .move x, .mv y => bC7 tb x y
 | .assign x, .mv y => bC7 tb x y
 | .nilCheck x, .nilck y => bC7 tb x y
 | .pick c a b, .pick c' a' b' => bC7 tb c c' && bC7 tb a a' && bC7 tb b b'
 | .binOp op t x y _, .bin op' x' y' => decide (op = op') && (isI P t || isS P t) && bC7 tb x x' && bC7 tb y y'
 | .binOp op t x y _, .eqs neg agg ks x' y' => decide (op = if neg then .neq else .eql) && eqT P t agg ks && bC7 tb x x' && bC7 tb y y'
 | .unOp op _ x, .un op' y => decide (op = op') && bC7 tb x y
 | .convert s d x, .conv k y => (match P.underlying s, P.underlying d with | some (.int _), some (.int k') => decide (k = k') | _, _ => false) && bC7 tb x y
 | .convert s d x, .bytes y => (match P.underlying s, P.underlying d with | some (.slice e), some .string => (match P.underlying e with | some (.int .u8) => true | _ => false) | _, _ => false) && bC7 tb x y
 | .call c, .len s y => (match c.callee, c.args.toList, c.argTypes.toList with
  | .builtin .len, [x], [t] => (if s then isS P t else (v27 P t).isSome) && bC7 tb x y
  | _, _, _ => false)
 | .call c, .mxi y z => (match c.callee, c.args.toList with
  | .builtin .max, [x, x'] => bC7 tb x y && bC7 tb x' z
  | _, _ => false)
 | .indexAddr t x i, .iaddr e y j => (match v27 P t with | some el => decide (g97 P el = some e) | none => false) && bC7 tb x y && bC7 tb i j
 | .fieldAddr t x i, .faddr off y => (match zB7 P t i with | some (ft, o) => decide (o = off) && decide ((g97 P ft).getD 0 ≠ 0) | none => false) && bC7 tb x y
 | .field t x i, .fld off sz agg y => (match zB7 P t i with | some (ft, o) => decide (o = off) && decide (g97 P ft = some sz) && decide (sq7 P ft = some agg) && (agg || sz == 1) | none => false) && bC7 tb x y
 | .index t x i, .sidx y j => isS P t && bC7 tb x y && bC7 tb i j
 | .slice t x lo hi mx, .ssl y lo' hi' => isS P t && mx.isNone && bC7 tb x y && ic7 tb lo lo' && ic7 tb hi hi'
 | .slice t x lo hi mx, .sls e y lo' hi' => (match v27 P t with | some el => decide (g97 P el = some e) | none => false) && mx.isNone && bC7 tb x y && ic7 tb lo lo' && ic7 tb hi hi'
 | .slice t x lo hi mx, .sl3 e y lo' hi' mx' => (match v27 P t with | some el => decide (g97 P el = some e) | none => false) && bC7 tb x y && ic7 tb lo (some lo') && ic7 tb hi (some hi') && ic7 tb mx (some mx')
 | .load t x, .load sz agg y => decide (g97 P t = some sz) && decide (sq7 P t = some agg) && (agg || sz == 1) && bC7 tb x y
 | .load t x, .ldr sz y => decide (g97 P t = some sz) && decide (sq7 P t = some true) && bC7 tb x y
 | .store t x y, .store ks x' y' => decide (g97 P t = some ks.length) && bC7 tb x x' && bC7 tb y y'
 | .box t x, .box k ks y => decide (tb.ty k = t) && decide (ks.length = esz k) && bC7 tb x y
 | .alloc t, .alloc k z => decide (tb.ty k = t) && decide (z.length = esz k) && (match zOf P t with | some vs => jR7 vs z | none => false)
 | .makeSlice t n m, .mks k z n' m' => (match v27 P t with | some e => kOk P tb e k && CH7 P e && decide (z.length = esz k) && (match zOf P e with | some vs => jR7 vs z | none => false) | none => false) && bC7 tb n n' && bC7 tb m m'
 | .buildSlice t n ps, .lit k ks z n' ps' => (match v27 P t with | some e => kOk P tb e k && CH7 P e && decide (z.length = esz k) && decide (ks.length = esz k) && (match zOf P e with | some vs => jR7 vs z | none => false) | none => false) && decide (n = n') && decide (n ≤ 256) && nc7 tb ps.toList ps'
 | .build t ps, .build z ps' => (match P.underlying t, zOf P t with
  | some (.struct fs), some vs => zAV vs z && gQ7 tb (fun i => (fs[i]?).bind fun f => (g97 P f.type).map fun s => (f.offset, s)) ps.toList ps' && fs.toList.all (fun f => (g97 P f.type).isSome)
  | _, _ => false)
 | .call c, .app k mv x y => (match c.callee, c.args.toList, c.argTypes.toList with
  | .builtin .append, [x', y'], [t, t'] => decide (t = t') && (match v27 P t with | some e => kOk P tb e k && CH7 P e | none => false) && bC7 tb x' x && bC7 tb y' y
  | _, _, _ => false)
 | .call c, .call f xs => (match c.callee with
  | .value (.func g) => decide (tb.fn f = g) && mN7 P g && jQ7 tb c.args.toList (xs.map (·.2))
  | _ => false)
 | .call c, .calld f xs => (match c.callee with
  | .value (.tmp g) => bC7 tb (.tmp g) f && jQ7 tb c.args.toList (xs.map (·.2))
  | _ => false)
 | .makeFunc fn first caps, .mkf f xs => (match fn with | .func g => decide (tb.fn f = g) && mN7 P g | _ => false) && first.isEmpty && jQ7 tb caps.toList xs
 | .extract x i, .ext y j => decide (i = j) && bC7 tb x y
 | o, .frz io => aR7 o io
 | o, .ren _ _ io => aR7 o io
 | o, .shut _ io => aR7 o io
 | o, .rawl io => aR7 o io
 | o, .unr _ io => aR7 o io
 | o, .pfz _ io => aR7 o io
 | o, .trn io => aR7 o io
 | o, .opa _ _ io => aR7 o io
 | o, .cla _ io => aR7 o io
 | _, .dead => true
 | _, _ => false
end Go.Proofs.AM
