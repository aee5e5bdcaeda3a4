/- Lemmas of the proof (Chk), on an abstract machine. Conditions: none. -/
import Derived.Test.YtnnfdbdheoajgaaGreatRel
set_option linter.unusedVariables false
namespace Go.Proofs.AM
open Go.RowKit
variable (P : Program) (tb : Tab)
def Bo7 : Value → Value → Bool
 | .int k a, .int k' b => decide (k = k') && decide (a = b)
 | .bool a, .bool b => a == b
 | .string a, .string b => decide (a.data.toList = b.data.toList)
 | .slice none 0 0, .slice none 0 0 => true
 | .pointer none, .pointer none => true
 | _, _ => false
theorem kI7 {a b : Value} (h : Bo7 a b = true) : a = b := by
 unfold Bo7 at h
 split at h
 ·simp at h; rw [h.1, h.2]
 ·simp at h; rw [h]
 ·rename_i a b
  have h' := of_decide_eq_true h
  congr 1
  exact ByteArray.ext (Array.ext' h')
 ·rfl
 ·rfl
 ·cases h
def be7 : Operand → Od → Bool
 | .tmp n, .t m => n == m
 | .const v, .c u => Bo7 v u
 | .func f, .f n => tb.fn n == f
 | .tmp n, .w m => n == m
 | .const v, .zr => Bo7 v (.slice none 0 0)
 | .const v, .nl => Bo7 v (.slice none 0 0)
 | .global n, .g ss => tb.gs.any fun p => p.1 == n && decide (p.2.map (·.data.toList) = ss.map (·.data.toList))
 | _, _ => false
def jC7 : List Operand → List Od → Bool
 | [], [] => true
 | o :: os, d :: ds => be7 tb o d && jC7 os ds
 | _, _ => false
def gd7 : Option Operand → Option Od → Bool
 | none, none => true
 | some o, some d => be7 tb o d
 | _, _ => false
def ge7 (t : TypeId) : Option Nat := (P.info? t).map (·.size)
def r17 (t : TypeId) : Option Bool := match P.underlying t with
 | some (.struct _) => some true
 | some (.array ..) => some true
 | some _ => some false
 | none => none
def r27 (t : TypeId) : Option TypeId := match P.underlying t with
 | some (.slice e) => some e
 | _ => none
def zj7 (t : TypeId) (i : Nat) : Option (TypeId × Nat) := match P.underlying t with
 | some (.struct fs) => (fs[i]?).map fun f => (f.type, f.offset)
 | _ => none
def isI (t : TypeId) : Bool := match P.underlying t with
 | some (.int _) => true
 | _ => false
def isS (t : TypeId) : Bool := match P.underlying t with
 | some .string => true
 | _ => false
def eqK (t : TypeId) (k : Nat) : Bool := match P.underlying t with
 | some (.int _) => k == 0
 | some .bool => k == 1
 | some .string => k == 2
 | _ => false
def Fs7 : Nat → List Field → List Nat → Bool
 | _, [], [] => true
 | i, f :: fs, k :: ks => f.name != "_" && eqK P f.type k && f.offset == i && Fs7 (i + 1) fs ks
 | _, _, _ => false
def eqT (t : TypeId) (agg : Bool) (ks : List Nat) : Bool := if agg then (match P.underlying t with
 | some (.struct fs) => !P.stoodInHeld t && !P.eqGuardType P.depth t && Fs7 P 0 fs.toList ks
 | _ => false) else (match ks with
 | [k] => eqK P t k
 | _ => false)
def FE7 : Value → T → Bool
 | .slice none 0 0, .sl true _ [] => true
 | .slice none 0 0, .sl false _ [] => true
 | a, .v b => Bo7 a b && a.oneCell'
 | _, _ => false
def hP7 : List Value → List T → Bool
 | [], [] => true
 | a :: as, b :: bs => FE7 a b && hP7 as bs
 | _, _ => false
def zAV : List Value → List AV → Bool
 | [], [] => true
 | .slice none 0 0 :: as, .nil :: bs => zAV as bs
 | a :: as, .v b :: bs => Bo7 a b && zAV as bs
 | _, _ => false
def zOf (t : TypeId) : Option (List Value) := ((P.info? t).bind (·.zero)).map (·.cells.toList)
def kOk (e : TypeId) (k : Nat) : Bool := decide (tb.ty k = e) && decide (ge7 P e = some (esz k)) && decide (0 < esz k)
def Bp7 (e : TypeId) : Bool := match P.info? e with
 | some i => decide (0 < i.bytes) && decide (i.bytes ≤ 32768) && (match i.zero with | some z => decide (z.cells.size = i.size) | none => false)
 | none => false
def gJ7 (fs : Nat → Option (Nat × Nat)) : List (Nat × Operand) → List (Nat × Nat × Od) → Bool
 | [], [] => true
 | (i, o) :: os, (off, sz, d) :: ds => decide (fs i = some (off, sz)) && be7 tb o d && gJ7 fs os ds
 | _, _ => false
def mJ7 : List (Nat × Operand) → List (Nat × Od) → Bool
 | [], [] => true
 | (i, o) :: os, (j, d) :: ds => i == j && be7 tb o d && mJ7 os ds
 | _, _ => false
def mh7 (f : FuncId) : Bool := match P.funcs[f]? with
 | some fn => fn.body.isSome && fn.name != "runtime.NumGoroutine"
 | none => false
def FF7 (t : TypeId) : Bool := match P.underlying t with
 | some (.int .i64) => true
 | _ => false
def PP7 (t : TypeId) : Bool := match (P.info? t).bind (·.zero) with
 | some (.int .i64 0) => true
 | _ => false
def zk7 (t : TypeId) : Bool := match P.underlying t with
 | some (.map k e) => FF7 P k && PP7 P e
 | _ => false
def aB7 : Op → Opx → Bool
 | .move x, .mv y => be7 tb x y
 | .assign x, .mv y => be7 tb x y
 | .nilCheck x, .nilck y => be7 tb x y
 | .pick c a b, .pick c' a' b' => be7 tb c c' && be7 tb a a' && be7 tb b b'
 | .binOp op t x y _, .bin op' x' y' => decide (op = op') && (isI P t || isS P t) && be7 tb x x' && be7 tb y y'
 | .binOp op t x y _, .eqs neg agg ks x' y' => decide (op = if neg then .neq else .eql) && eqT P t agg ks && be7 tb x x' && be7 tb y y'
 | .unOp op _ x, .un op' y => decide (op = op') && be7 tb x y
 | .convert s d x, .conv k y => (match P.underlying s, P.underlying d with | some (.int _), some (.int k') => decide (k = k') | _, _ => false) && be7 tb x y
 | .convert s d x, .bytes y => (match P.underlying s, P.underlying d with | some (.slice e), some .string => (match P.underlying e with | some (.int .u8) => true | _ => false) | _, _ => false) && be7 tb x y
 | .call c, .len s y => (match c.callee, c.args.toList, c.argTypes.toList with
  | .builtin .len, [x], [t] => (if s then isS P t else (r27 P t).isSome) && be7 tb x y
  | _, _, _ => false)
 | .call c, .mxi y z => (match c.callee, c.args.toList with
  | .builtin .max, [x, x'] => be7 tb x y && be7 tb x' z
  | _, _ => false)
 | .indexAddr t x i, .iaddr e y j => (match r27 P t with | some el => decide (ge7 P el = some e) | none => false) && be7 tb x y && be7 tb i j
 | .fieldAddr t x i, .faddr off y => (match zj7 P t i with | some (ft, o) => decide (o = off) && decide ((ge7 P ft).getD 0 ≠ 0) | none => false) && be7 tb x y
 | .field t x i, .fld off sz agg y => (match zj7 P t i with | some (ft, o) => decide (o = off) && decide (ge7 P ft = some sz) && decide (r17 P ft = some agg) && (agg || sz == 1) | none => false) && be7 tb x y
 | .index t x i, .sidx y j => isS P t && be7 tb x y && be7 tb i j
 | .slice t x lo hi mx, .ssl y lo' hi' => isS P t && mx.isNone && be7 tb x y && gd7 tb lo lo' && gd7 tb hi hi'
 | .slice t x lo hi mx, .sls e y lo' hi' => (match r27 P t with | some el => decide (ge7 P el = some e) | none => false) && mx.isNone && be7 tb x y && gd7 tb lo lo' && gd7 tb hi hi'
 | .slice t x lo hi mx, .sl3 e y lo' hi' mx' => (match r27 P t with | some el => decide (ge7 P el = some e) | none => false) && be7 tb x y && gd7 tb lo (some lo') && gd7 tb hi (some hi') && gd7 tb mx (some mx')
 | .slice t x lo hi mx, .slx e y lo' hi' => (match r27 P t with | some el => decide (ge7 P el = some e) | none => false) && mx.isNone && be7 tb x y && gd7 tb lo lo' && gd7 tb hi hi'
 | .call c, .ain k x y => (match c.callee, c.args.toList, c.argTypes.toList with
  | .builtin .append, [x', y'], [t, t'] => decide (t = t') && (match r27 P t with | some e => kOk P tb e k && Bp7 P e | none => false) && be7 tb x' x && be7 tb y' y
  | _, _, _ => false)
 | .call c, .clr k z x => (match c.callee, c.args.toList, c.argTypes.toList with
  | .builtin .clear, [x'], [t] => (match r27 P t with | some e => kOk P tb e k && decide (z.length = esz k) && (match zOf P e with | some vs => hP7 vs z | none => false) | none => false) && be7 tb x' x
  | _, _, _ => false)
 | .makeMap _ r, .mnew => r.isNone
 | .mapUpdate t x k v, .mset _ x' k' v' => zk7 P t && be7 tb x x' && be7 tb k k' && be7 tb v v'
 | .lookup t x k ok, .mget _ x' k' => zk7 P t && !ok && be7 tb x x' && be7 tb k k'
 | .load t x, .load sz agg y => decide (ge7 P t = some sz) && decide (r17 P t = some agg) && (agg || sz == 1) && be7 tb x y
 | .load t x, .ldr sz y => decide (ge7 P t = some sz) && decide (r17 P t = some true) && be7 tb x y
 | .store t x y, .store ks x' y' => decide (ge7 P t = some ks.length) && be7 tb x x' && be7 tb y y'
 | .box t x, .box k ks y => decide (tb.ty k = t) && decide (ks.length = esz k) && be7 tb x y
 | .alloc t, .alloc k z => decide (tb.ty k = t) && decide (z.length = esz k) && (match zOf P t with | some vs => hP7 vs z | none => false)
 | .makeSlice t n m, .mks k z n' m' => (match r27 P t with | some e => kOk P tb e k && Bp7 P e && decide (z.length = esz k) && (match zOf P e with | some vs => hP7 vs z | none => false) | none => false) && be7 tb n n' && be7 tb m m'
 | .buildSlice t n ps, .lit k ks z n' ps' => (match r27 P t with | some e => kOk P tb e k && Bp7 P e && decide (z.length = esz k) && decide (ks.length = esz k) && (match zOf P e with | some vs => hP7 vs z | none => false) | none => false) && decide (n = n') && decide (n ≤ 256) && mJ7 tb ps.toList ps'
 | .build t ps, .build z ps' => (match P.underlying t, zOf P t with
  | some (.struct fs), some vs => zAV vs z && gJ7 tb (fun i => (fs[i]?).bind fun f => (ge7 P f.type).map fun s => (f.offset, s)) ps.toList ps' && fs.toList.all (fun f => (ge7 P f.type).isSome)
  | _, _ => false)
 | .call c, .app k mv x y => (match c.callee, c.args.toList, c.argTypes.toList with
  | .builtin .append, [x', y'], [t, t'] => decide (t = t') && (match r27 P t with | some e => kOk P tb e k && Bp7 P e | none => false) && be7 tb x' x && be7 tb y' y
  | _, _, _ => false)
 | .call c, .call f xs => (match c.callee with
  | .value (.func g) => decide (tb.fn f = g) && mh7 P g && jC7 tb c.args.toList (xs.map (·.2))
  | _ => false)
 | .call c, .calld f xs => (match c.callee with
  | .value (.tmp g) => be7 tb (.tmp g) f && jC7 tb c.args.toList (xs.map (·.2))
  | _ => false)
 | .makeFunc fn first caps, .mkf f xs => (match fn with | .func g => decide (tb.fn f = g) && mh7 P g | _ => false) && first.isEmpty && jC7 tb caps.toList xs
 | .extract x i, .ext y j => decide (i = j) && be7 tb x y
 | o, .frz io => aB7 o io
 | o, .ren _ _ io => aB7 o io
 | o, .shut _ io => aB7 o io
 | o, .rawl io => aB7 o io
 | o, .unr _ io => aB7 o io
 | o, .pfz _ io => aB7 o io
 | o, .trn io => aB7 o io
 | o, .opa _ _ io => aB7 o io
 | o, .cla _ io => aB7 o io
 | _, .dead => true
 | _, _ => false
end Go.Proofs.AM
