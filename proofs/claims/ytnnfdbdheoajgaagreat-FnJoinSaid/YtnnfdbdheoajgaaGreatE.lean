/- Lemmas of the proof (E), on an abstract machine. Conditions: none. -/
import Derived.Test.YtnnfdbdheoajgaaGreatV
set_option linter.unusedVariables false
namespace Go.Proofs.AM
abbrev Str := ByteArray
structure Pt where
 x : Int
 y : Int
 deriving DecidableEq
structure Tag where
 key : Str
 val : Str
 deriving DecidableEq
structure aL7 where
 kind : Int
 pts : List Pt
 deriving DecidableEq
structure Feat where
 id : Str
 shape : aL7
 tags : List Tag
 deriving DecidableEq
structure j17 where
 id : Str
 had : Bool
 was : Feat
 has : Bool
 now : Feat
 deriving DecidableEq
structure mT7 where
 up : List Int
 note : Str
 diff : List j17
 deriving DecidableEq
structure Commit where
 up : List Int
 sheet : List Feat
 note : Str
 deriving DecidableEq
structure Head where
 name : Str
 at_ : Int
 deriving DecidableEq
structure am7 where
 commits : List Commit
 heads : List Head
 deriving DecidableEq
structure ax7 where
 id : Str
 what : Str
 deriving DecidableEq
structure cM7 where
 a : Int
 b : Int
 deriving DecidableEq
structure Val where
 has : Bool
 val : Str
 deriving DecidableEq
structure do7 where
 has : Bool
 f : Feat
 deriving DecidableEq
structure Rd where
 b : List UInt8
 p : Int
 deriving DecidableEq
def sl (m : Bool) (k : Nat) (rows : Rows) : T := match m with
 | true => .sl true k rows
 | false => .sl false (k % 16) rows
def bo7 (n : Int) : List T := [.v (.int .i64 n)]
def bK7 (n : Bool) : List T := [.v (.bool n)]
def eU8 (n : UInt8) : List T := [.v (.int .u8 n.toNat)]
def eB8 (n : Int) : List T := [.v (.int .u8 n)]
def eSl {α : Type} (m : Bool) (k : Nat) (f : α → List T) (xs : List α) : List T := [sl m k (xs.map f)]
def ePt (p : Pt) : List T := [.v (.int .i64 p.x), .v (.int .i64 p.y)]
def bg7 (p : Tag) : List T := [.v (.string p.key), .v (.string p.val)]
def az7 (p : Head) : List T := [.v (.string p.name), .v (.int .i64 p.at_)]
def bc7 (p : ax7) : List T := [.v (.string p.id), .v (.string p.what)]
def fj7 (p : cM7) : List T := [.v (.int .i64 p.a), .v (.int .i64 p.b)]
def Gk7 (p : Val) : List T := [.v (.bool p.has), .v (.string p.val)]
def hj7 (m : Bool) (s : aL7) : List T := [.v (.int .i64 s.kind), sl m 66 (s.pts.map ePt)]
def ak7 (m : Bool) (f : Feat) : List T := [.v (.string f.id), .v (.int .i64 f.shape.kind), sl m 66 (f.shape.pts.map ePt), sl m 82 (f.tags.map bg7)]
def cC7 (m : Bool) (c : j17) : List T := [.v (.string c.id), .v (.bool c.had), .v (.string c.was.id), .v (.int .i64 c.was.shape.kind), sl m 66 (c.was.shape.pts.map ePt), sl m 82 (c.was.tags.map bg7), .v (.bool c.has), .v (.string c.now.id), .v (.int .i64 c.now.shape.kind), sl m 66 (c.now.shape.pts.map ePt), sl m 82 (c.now.tags.map bg7)]
def ga7 (m : Bool) (e : mT7) : List T := [sl m 17 (e.up.map bo7), .v (.string e.note), sl m 155 (e.diff.map (cC7 m))]
def hL7 (e : mT7) : List T := [sl true 17 (e.up.map bo7), .v (.string e.note), sl false 155 (e.diff.map (cC7 false))]
def af7 (m : Bool) (c : Commit) : List T := [sl m 17 (c.up.map bo7), sl m 100 (c.sheet.map (ak7 m)), .v (.string c.note)]
def jp7 (m : Bool) (r : am7) : List T := [sl m 115 (r.commits.map (af7 m)), sl m 130 (r.heads.map az7)]
def bi7 (c : Commit) : List T := [sl true 17 (c.up.map bo7), sl false 100 (c.sheet.map (ak7 false)), .v (.string c.note)]
def w27 (r : am7) : List T := [sl true 115 (r.commits.map bi7), sl true 130 (r.heads.map az7)]
def qc7 (m : Bool) (p : do7) : List T := .v (.bool p.has) :: ak7 m p.f
theorem w37 {α : Type} {f : α → List T} (hf : ∀ a b, f a = f b → a = b) : ∀ {xs ys : List α}, xs.map f = ys.map f → xs = ys
 | [], [], _ => rfl
 | x :: xs, y :: ys, h => by
  simp only [List.map_cons, List.cons.injEq] at h
  rw [hf _ _ h.1, w37 hf h.2]
 | [], _ :: _, h => by simp at h
 | _ :: _, [], h => by simp at h
theorem Gl7 {m : Bool} {k : Nat} {a b : Rows} (h : sl m k a = sl m k b) : a = b := by cases m <;> simpa [sl] using h
theorem QK7 {α : Type} {f : α → List T} {xs : List α} {i : Nat} {x : α} (h : xs[i]? = some x) : (xs.map f)[i]? = some (f x) := by rw [List.getElem?_map, h]; rfl
theorem aN7 {n : Int} (h : -9223372036854775808 ≤ n) (h' : n ≤ 9223372036854775807) : IntKind.i64.wrap n = n := by
 rw [IntKind.wrap_i64]; omega
theorem Rg7 {t : Tm} {d : Nat} {x : AV} (h : t d = x) : t = aG7 t (some d) x := by
 funext i
 simp only [aG7]
 split
 ·rename_i e; rw [e]; exact h
 ·rfl
theorem Rh7 {o : aj7} {n : Nat} {e : Ent} (h : o n = some e) : o = upd o n (some e) := by
 funext i
 simp only [upd]
 split
 ·rename_i e; rw [e]; exact h
 ·rfl
theorem dW7 {α : Type} {f g : α → List T} (he : ∀ x, erL (f x) = some (g x)) : ∀ xs : List α, erR (xs.map f) = some (xs.map g)
 | [] => rfl
 | x :: xs => by simp only [List.map_cons, erR, he, dW7 he xs]
theorem fk7 : erL [] = some [] := rfl
theorem hM7 {v : Value} {cs ds : List T} (h : erL cs = some ds) : erL (.v v :: cs) = some (.v v :: ds) := by simp only [erL, erT, h]
theorem c27 {α : Type} {m : Bool} {k : Nat} {f g : α → List T} {xs : List α} {cs ds : List T} (he : ∀ x, erL (f x) = some (g x)) (h : erL cs = some ds) : erL (sl m k (xs.map f) :: cs) = some (sl false k (xs.map g) :: ds) := by
 cases m <;> simp only [erL, sl, erT, dW7 he, h, Option.map_some, Nat.mod_mod]
theorem nB7 (x : Int) : erL (bo7 x) = some (bo7 x) := rfl
theorem w47 (x : Bool) : erL (bK7 x) = some (bK7 x) := rfl
theorem Nj7 (x : UInt8) : erL (eU8 x) = some (eU8 x) := rfl
theorem Nk7 (x : Int) : erL (eB8 x) = some (eB8 x) := rfl
theorem Gm7 (x : Str) : erL (cK7 x) = some (cK7 x) := rfl
theorem vv7 (x : Pt) : erL (ePt x) = some (ePt x) := rfl
theorem qd7 (x : Tag) : erL (bg7 x) = some (bg7 x) := rfl
theorem w57 (x : Head) : erL (az7 x) = some (az7 x) := rfl
theorem zJ7 (x : ax7) : erL (bc7 x) = some (bc7 x) := rfl
theorem C37 (x : cM7) : erL (fj7 x) = some (fj7 x) := rfl
theorem Gn7 (x : Val) : erL (Gk7 x) = some (Gk7 x) := rfl
theorem zK7 {α : Type} {m : Bool} {k : Nat} {f g : α → List T} (he : ∀ x, erL (f x) = some (g x)) (xs : List α) : erL (eSl m k f xs) = some (eSl false k g xs) := c27 he fk7
theorem zL7 {m : Bool} (x : aL7) : erL (hj7 m x) = some (hj7 false x) := hM7 (c27 vv7 fk7)
theorem gx7 {m : Bool} (x : Feat) : erL (ak7 m x) = some (ak7 false x) := hM7 (hM7 (c27 vv7 (c27 qd7 fk7)))
theorem eV7 {m : Bool} (x : j17) : erL (cC7 m x) = some (cC7 false x) := hM7 (hM7 (hM7 (hM7 (c27 vv7 (c27 qd7 (hM7 (hM7 (hM7 (c27 vv7 (c27 qd7 fk7))))))))))
theorem zM7 {m : Bool} (x : mT7) : erL (ga7 m x) = some (ga7 false x) := c27 nB7 (hM7 (c27 eV7 fk7))
theorem qe7 {m : Bool} (x : Commit) : erL (af7 m x) = some (af7 false x) := c27 nB7 (c27 gx7 (hM7 fk7))
theorem C47 {m : Bool} (x : am7) : erL (jp7 m x) = some (jp7 false x) := c27 qe7 (c27 w57 fk7)
theorem zN7 {m : Bool} (x : do7) : erL (qc7 m x) = some (qc7 false x) := hM7 (gx7 x.f)
theorem w67 (x : mT7) : erL (hL7 x) = some (ga7 false x) := c27 nB7 (hM7 (c27 eV7 fk7))
theorem vw7 (x : Commit) : erL (bi7 x) = some (af7 false x) := c27 nB7 (c27 gx7 (hM7 fk7))
theorem dc7 {α : Type} {j : Nat} {f g : α → List T} (h : ∀ x, pI7 j (f x) = some (g x)) : ∀ xs : List α, dw7 j (xs.map f) = some (xs.map g)
 | [] => rfl
 | x :: xs => by simp only [List.map_cons, dw7, h, dc7 h xs]
theorem lx7 (xs : List Commit) : dw7 1 (xs.map (af7 true)) = some (xs.map bi7) := dc7 (fun x => by
 simp [pI7, af7, bi7, sl, erT, dW7 gx7]) xs
theorem zO7 (xs : List mT7) : dw7 2 (xs.map (ga7 true)) = some (xs.map hL7) := dc7 (fun x => by
 simp [pI7, ga7, hL7, sl, erT, dW7 eV7]) xs
theorem w77 (xs : List mT7) : dw7 2 (xs.map hL7) = some (xs.map hL7) := dc7 (fun x => by
 simp [pI7, hL7, sl, erT, dW7 eV7]) xs
theorem w87 (xs : List j17) : dw7 16 (xs.map (cC7 true)) = some (xs.map (cC7 false)) := dc7 (fun x => (if_pos (Nat.le_refl 16)).trans (eV7 x)) xs
theorem C57 (xs : List Feat) : dw7 16 (xs.map (ak7 true)) = some (xs.map (ak7 false)) := dc7 (fun x => (if_pos (Nat.le_refl 16)).trans (gx7 x)) xs
theorem nC7 (xs : List Commit) : dw7 1 (xs.map bi7) = some (xs.map bi7) := dc7 (fun x => by
 simp [pI7, bi7, sl, erT, dW7 gx7]) xs
theorem oH7 : d27 [] = true := rfl
theorem il7 {r : List T} {rs : List (List T)} (h : fb7 r = true) (h' : d27 rs = true) : d27 (r :: rs) = true := by simp only [d27, h, h', Bool.and_self]
theorem di7 : fb7 [] = true := rfl
theorem ha7 {v : Value} {cs : List T} (h : fb7 cs = true) : fb7 (.v v :: cs) = true := by simp only [fb7, zx7, h, Bool.and_self]
theorem bp7 {α : Type} {f : α → List T} (he : ∀ x, fb7 (f x) = true) : ∀ xs : List α, d27 (xs.map f) = true
 | [] => rfl
 | x :: xs => il7 (he x) (bp7 he xs)
theorem c67 {α : Type} {k : Nat} {f : α → List T} {xs : List α} {cs : List T} (he : ∀ x, fb7 (f x) = true) (h : fb7 cs = true) : fb7 (sl true k (xs.map f) :: cs) = true := by simp only [fb7, sl, zx7, bp7 he, h, Bool.and_self]
theorem sF7 {α : Type} {k : Nat} {f : α → List T} {xs : List α} {cs : List T} (he : ∀ x, fb7 (f x) = true) (h : fb7 cs = true) : fb7 (.sl true k (xs.map f) :: cs) = true := c67 he h
theorem nD7 (x : Pt) : fb7 (ePt x) = true := rfl
theorem jq7 (x : Int) : fb7 (bo7 x) = true := rfl
theorem kJ7 (x : Bool) : fb7 (bK7 x) = true := rfl
theorem BW7 (x : UInt8) : fb7 (eU8 x) = true := rfl
theorem BX7 (x : Int) : fb7 (eB8 x) = true := rfl
theorem w97 (x : Str) : fb7 (cK7 x) = true := rfl
theorem hN7 (x : Tag) : fb7 (bg7 x) = true := rfl
theorem oI7 (x : Head) : fb7 (az7 x) = true := rfl
theorem qf7 (x : ax7) : fb7 (bc7 x) = true := rfl
theorem tN7 (x : cM7) : fb7 (fj7 x) = true := rfl
theorem xa7 (x : Val) : fb7 (Gk7 x) = true := rfl
theorem j27 {α : Type} {k : Nat} {f : α → List T} (he : ∀ x, fb7 (f x) = true) (xs : List α) : fb7 (eSl true k f xs) = true := c67 he di7
theorem qg7 (x : aL7) : fb7 (hj7 true x) = true := ha7 (c67 nD7 di7)
theorem gV7 (x : Feat) : fb7 (ak7 true x) = true := ha7 (ha7 (c67 nD7 (c67 hN7 di7)))
theorem jr7 (x : j17) : fb7 (cC7 true x) = true := ha7 (ha7 (ha7 (ha7 (c67 nD7 (c67 hN7 (ha7 (ha7 (ha7 (c67 nD7 (c67 hN7 di7))))))))))
theorem qh7 (x : mT7) : fb7 (ga7 true x) = true := c67 jq7 (ha7 (c67 jr7 di7))
theorem js7 (x : Commit) : fb7 (af7 true x) = true := c67 jq7 (c67 gV7 (ha7 di7))
theorem tO7 (x : am7) : fb7 (jp7 true x) = true := c67 js7 (c67 oI7 di7)
theorem qi7 (x : do7) : fb7 (qc7 true x) = true := ha7 (gV7 x.f)
end Go.Proofs.AM
