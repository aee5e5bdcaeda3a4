/- Lemmas of the proof (E), on an abstract machine. Conditions: none. -/
import Derived.Test.YtnnfdbdheoajgaaGreatV
set_option linter.unusedVariables false
namespace Go.Proofs.AM
abbrev Str := ByteArray
structure Pt where
 x : Int
 y : Int
 deriving DecidableEq
structure Tag where
 key : Str
 val : Str
 deriving DecidableEq
structure aS7 where
 kind : Int
 pts : List Pt
 deriving DecidableEq
structure Feat where
 id : Str
 shape : aS7
 tags : List Tag
 deriving DecidableEq
structure jY7 where
 id : Str
 had : Bool
 was : Feat
 has : Bool
 now : Feat
 deriving DecidableEq
structure mC7 where
 up : List Int
 note : Str
 diff : List jY7
 deriving DecidableEq
structure Commit where
 up : List Int
 sheet : List Feat
 note : Str
 deriving DecidableEq
structure Head where
 name : Str
 at_ : Int
 deriving DecidableEq
structure an7 where
 commits : List Commit
 heads : List Head
 deriving DecidableEq
structure aG7 where
 id : Str
 what : Str
 deriving DecidableEq
structure d67 where
 a : Int
 b : Int
 deriving DecidableEq
structure Val where
 has : Bool
 val : Str
 deriving DecidableEq
structure dq7 where
 has : Bool
 f : Feat
 deriving DecidableEq
structure Rd where
 b : List UInt8
 p : Int
 deriving DecidableEq
def sl (m : Bool) (k : Nat) (rows : Rows) : T := match m with
 | true => .sl true k rows
 | false => .sl false (k % 16) rows
def br7 (n : Int) : List T := [.v (.int .i64 n)]
def bK7 (n : Bool) : List T := [.v (.bool n)]
def eU8 (n : UInt8) : List T := [.v (.int .u8 n.toNat)]
def eB8 (n : Int) : List T := [.v (.int .u8 n)]
def eSl {α : Type} (m : Bool) (k : Nat) (f : α → List T) (xs : List α) : List T := [sl m k (xs.map f)]
def ePt (p : Pt) : List T := [.v (.int .i64 p.x), .v (.int .i64 p.y)]
def bc7 (p : Tag) : List T := [.v (.string p.key), .v (.string p.val)]
def av7 (p : Head) : List T := [.v (.string p.name), .v (.int .i64 p.at_)]
def bw7 (p : aG7) : List T := [.v (.string p.id), .v (.string p.what)]
def fh7 (p : d67) : List T := [.v (.int .i64 p.a), .v (.int .i64 p.b)]
def FN7 (p : Val) : List T := [.v (.bool p.has), .v (.string p.val)]
def hi7 (m : Bool) (s : aS7) : List T := [.v (.int .i64 s.kind), sl m 66 (s.pts.map ePt)]
def ag7 (m : Bool) (f : Feat) : List T := [.v (.string f.id), .v (.int .i64 f.shape.kind), sl m 66 (f.shape.pts.map ePt), sl m 82 (f.tags.map bc7)]
def cF7 (m : Bool) (c : jY7) : List T := [.v (.string c.id), .v (.bool c.had), .v (.string c.was.id), .v (.int .i64 c.was.shape.kind), sl m 66 (c.was.shape.pts.map ePt), sl m 82 (c.was.tags.map bc7), .v (.bool c.has), .v (.string c.now.id), .v (.int .i64 c.now.shape.kind), sl m 66 (c.now.shape.pts.map ePt), sl m 82 (c.now.tags.map bc7)]
def f37 (m : Bool) (e : mC7) : List T := [sl m 17 (e.up.map br7), .v (.string e.note), sl m 155 (e.diff.map (cF7 m))]
def hH7 (e : mC7) : List T := [sl true 17 (e.up.map br7), .v (.string e.note), sl false 155 (e.diff.map (cF7 false))]
def af7 (m : Bool) (c : Commit) : List T := [sl m 17 (c.up.map br7), sl m 100 (c.sheet.map (ag7 m)), .v (.string c.note)]
def hI7 (m : Bool) (r : an7) : List T := [sl m 115 (r.commits.map (af7 m)), sl m 130 (r.heads.map av7)]
def bi7 (c : Commit) : List T := [sl true 17 (c.up.map br7), sl false 100 (c.sheet.map (ag7 false)), .v (.string c.note)]
def wr7 (r : an7) : List T := [sl true 115 (r.commits.map bi7), sl true 130 (r.heads.map av7)]
def pM7 (m : Bool) (p : dq7) : List T := .v (.bool p.has) :: ag7 m p.f
theorem ws7 {α : Type} {f : α → List T} (hf : ∀ a b, f a = f b → a = b) : ∀ {xs ys : List α}, xs.map f = ys.map f → xs = ys
 | [], [], _ => rfl
 | x :: xs, y :: ys, h => by
  simp only [List.map_cons, List.cons.injEq] at h
  rw [hf _ _ h.1, ws7 hf h.2]
 | [], _ :: _, h => by simp at h
 | _ :: _, [], h => by simp at h
theorem FO7 {m : Bool} {k : Nat} {a b : Rows} (h : sl m k a = sl m k b) : a = b := by cases m <;> simpa [sl] using h
theorem Qp7 {α : Type} {f : α → List T} {xs : List α} {i : Nat} {x : α} (h : xs[i]? = some x) : (xs.map f)[i]? = some (f x) := by rw [List.getElem?_map, h]; rfl
theorem aP7 {n : Int} (h : -9223372036854775808 ≤ n) (h' : n ≤ 9223372036854775807) : IntKind.i64.wrap n = n := by
 rw [IntKind.wrap_i64]; omega
theorem QW7 {t : Tm} {d : Nat} {x : AV} (h : t d = x) : t = aE7 t (some d) x := by
 funext i
 simp only [aE7]
 split
 ·rename_i e; rw [e]; exact h
 ·rfl
theorem QX7 {o : ak7} {n : Nat} {e : Ent} (h : o n = some e) : o = upd o n (some e) := by
 funext i
 simp only [upd]
 split
 ·rename_i e; rw [e]; exact h
 ·rfl
theorem dX7 {α : Type} {f g : α → List T} (he : ∀ x, erL (f x) = some (g x)) : ∀ xs : List α, erR (xs.map f) = some (xs.map g)
 | [] => rfl
 | x :: xs => by simp only [List.map_cons, erR, he, dX7 he xs]
theorem fi7 : erL [] = some [] := rfl
theorem hJ7 {v : Value} {cs ds : List T} (h : erL cs = some ds) : erL (.v v :: cs) = some (.v v :: ds) := by simp only [erL, erT, h]
theorem c67 {α : Type} {m : Bool} {k : Nat} {f g : α → List T} {xs : List α} {cs ds : List T} (he : ∀ x, erL (f x) = some (g x)) (h : erL cs = some ds) : erL (sl m k (xs.map f) :: cs) = some (sl false k (xs.map g) :: ds) := by
 cases m <;> simp only [erL, sl, erT, dX7 he, h, Option.map_some, Nat.mod_mod]
theorem nk7 (x : Int) : erL (br7 x) = some (br7 x) := rfl
theorem wt7 (x : Bool) : erL (bK7 x) = some (bK7 x) := rfl
theorem M07 (x : UInt8) : erL (eU8 x) = some (eU8 x) := rfl
theorem M17 (x : Int) : erL (eB8 x) = some (eB8 x) := rfl
theorem FP7 (x : Str) : erL (cL7 x) = some (cL7 x) := rfl
theorem mD7 (x : Pt) : erL (ePt x) = some (ePt x) := rfl
theorem id7 (x : Tag) : erL (bc7 x) = some (bc7 x) := rfl
theorem wu7 (x : Head) : erL (av7 x) = some (av7 x) := rfl
theorem zf7 (x : aG7) : erL (bw7 x) = some (bw7 x) := rfl
theorem Cz7 (x : d67) : erL (fh7 x) = some (fh7 x) := rfl
theorem FQ7 (x : Val) : erL (FN7 x) = some (FN7 x) := rfl
theorem zg7 {α : Type} {m : Bool} {k : Nat} {f g : α → List T} (he : ∀ x, erL (f x) = some (g x)) (xs : List α) : erL (eSl m k f xs) = some (eSl false k g xs) := c67 he fi7
theorem zh7 {m : Bool} (x : aS7) : erL (hi7 m x) = some (hi7 false x) := hJ7 (c67 mD7 fi7)
theorem gv7 {m : Bool} (x : Feat) : erL (ag7 m x) = some (ag7 false x) := hJ7 (hJ7 (c67 mD7 (c67 id7 fi7)))
theorem eW7 {m : Bool} (x : jY7) : erL (cF7 m x) = some (cF7 false x) := hJ7 (hJ7 (hJ7 (hJ7 (c67 mD7 (c67 id7 (hJ7 (hJ7 (hJ7 (c67 mD7 (c67 id7 fi7))))))))))
theorem zi7 {m : Bool} (x : mC7) : erL (f37 m x) = some (f37 false x) := c67 nk7 (hJ7 (c67 eW7 fi7))
theorem pN7 {m : Bool} (x : Commit) : erL (af7 m x) = some (af7 false x) := c67 nk7 (c67 gv7 (hJ7 fi7))
theorem CA7 {m : Bool} (x : an7) : erL (hI7 m x) = some (hI7 false x) := c67 pN7 (c67 wu7 fi7)
theorem zj7 {m : Bool} (x : dq7) : erL (pM7 m x) = some (pM7 false x) := hJ7 (gv7 x.f)
theorem wv7 (x : mC7) : erL (hH7 x) = some (f37 false x) := c67 nk7 (hJ7 (c67 eW7 fi7))
theorem uU7 (x : Commit) : erL (bi7 x) = some (af7 false x) := c67 nk7 (c67 gv7 (hJ7 fi7))
theorem de7 {α : Type} {j : Nat} {f g : α → List T} (h : ∀ x, pi7 j (f x) = some (g x)) : ∀ xs : List α, dz7 j (xs.map f) = some (xs.map g)
 | [] => rfl
 | x :: xs => by simp only [List.map_cons, dz7, h, de7 h xs]
theorem lo7 (xs : List Commit) : dz7 1 (xs.map (af7 true)) = some (xs.map bi7) := de7 (fun x => by
 simp [pi7, af7, bi7, sl, erT, dX7 gv7]) xs
theorem zk7 (xs : List mC7) : dz7 2 (xs.map (f37 true)) = some (xs.map hH7) := de7 (fun x => by
 simp [pi7, f37, hH7, sl, erT, dX7 eW7]) xs
theorem ww7 (xs : List mC7) : dz7 2 (xs.map hH7) = some (xs.map hH7) := de7 (fun x => by
 simp [pi7, hH7, sl, erT, dX7 eW7]) xs
theorem wx7 (xs : List jY7) : dz7 16 (xs.map (cF7 true)) = some (xs.map (cF7 false)) := de7 (fun x => (if_pos (Nat.le_refl 16)).trans (eW7 x)) xs
theorem lp7 (xs : List Feat) : dz7 16 (xs.map (ag7 true)) = some (xs.map (ag7 false)) := de7 (fun x => (if_pos (Nat.le_refl 16)).trans (gv7 x)) xs
theorem nl7 (xs : List Commit) : dz7 1 (xs.map bi7) = some (xs.map bi7) := de7 (fun x => by
 simp [pi7, bi7, sl, erT, dX7 gv7]) xs
theorem oe7 : d57 [] = true := rfl
theorem ie7 {r : List T} {rs : List (List T)} (h : e97 r = true) (h' : d57 rs = true) : d57 (r :: rs) = true := by simp only [d57, h, h', Bool.and_self]
theorem dk7 : e97 [] = true := rfl
theorem hb7 {v : Value} {cs : List T} (h : e97 cs = true) : e97 (.v v :: cs) = true := by simp only [e97, y37, h, Bool.and_self]
theorem bs7 {α : Type} {f : α → List T} (he : ∀ x, e97 (f x) = true) : ∀ xs : List α, d57 (xs.map f) = true
 | [] => rfl
 | x :: xs => ie7 (he x) (bs7 he xs)
theorem c77 {α : Type} {k : Nat} {f : α → List T} {xs : List α} {cs : List T} (he : ∀ x, e97 (f x) = true) (h : e97 cs = true) : e97 (sl true k (xs.map f) :: cs) = true := by simp only [e97, sl, y37, bs7 he, h, Bool.and_self]
theorem r47 {α : Type} {k : Nat} {f : α → List T} {xs : List α} {cs : List T} (he : ∀ x, e97 (f x) = true) (h : e97 cs = true) : e97 (.sl true k (xs.map f) :: cs) = true := c77 he h
theorem nm7 (x : Pt) : e97 (ePt x) = true := rfl
theorem jo7 (x : Int) : e97 (br7 x) = true := rfl
theorem kA7 (x : Bool) : e97 (bK7 x) = true := rfl
theorem Bw7 (x : UInt8) : e97 (eU8 x) = true := rfl
theorem Bx7 (x : Int) : e97 (eB8 x) = true := rfl
theorem wy7 (x : Str) : e97 (cL7 x) = true := rfl
theorem hK7 (x : Tag) : e97 (bc7 x) = true := rfl
theorem of7 (x : Head) : e97 (av7 x) = true := rfl
theorem pO7 (x : aG7) : e97 (bw7 x) = true := rfl
theorem tb7 (x : d67) : e97 (fh7 x) = true := rfl
theorem wz7 (x : Val) : e97 (FN7 x) = true := rfl
theorem jZ7 {α : Type} {k : Nat} {f : α → List T} (he : ∀ x, e97 (f x) = true) (xs : List α) : e97 (eSl true k f xs) = true := c77 he dk7
theorem pP7 (x : aS7) : e97 (hi7 true x) = true := hb7 (c77 nm7 dk7)
theorem gU7 (x : Feat) : e97 (ag7 true x) = true := hb7 (hb7 (c77 nm7 (c77 hK7 dk7)))
theorem jp7 (x : jY7) : e97 (cF7 true x) = true := hb7 (hb7 (hb7 (hb7 (c77 nm7 (c77 hK7 (hb7 (hb7 (hb7 (c77 nm7 (c77 hK7 dk7))))))))))
theorem pQ7 (x : mC7) : e97 (f37 true x) = true := c77 jo7 (hb7 (c77 jp7 dk7))
theorem jq7 (x : Commit) : e97 (af7 true x) = true := c77 jo7 (c77 gU7 (hb7 dk7))
theorem tc7 (x : an7) : e97 (hI7 true x) = true := c77 jq7 (c77 of7 dk7)
theorem pR7 (x : dq7) : e97 (pM7 true x) = true := hb7 (gU7 x.f)
end Go.Proofs.AM
