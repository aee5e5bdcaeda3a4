/- Lemmas of the proof (E), on an abstract machine. Conditions: none. -/
import Derived.Test.YtnnfdbdheoajgaaGreatV
set_option linter.unusedVariables false
namespace Go.Proofs.AM
abbrev Str := ByteArray
structure Pt where
 x : Int
 y : Int
 deriving DecidableEq
structure Tag where
 key : Str
 val : Str
 deriving DecidableEq
structure aI7 where
 kind : Int
 pts : List Pt
 deriving DecidableEq
structure Feat where
 id : Str
 shape : aI7
 tags : List Tag
 deriving DecidableEq
structure jV7 where
 id : Str
 had : Bool
 was : Feat
 has : Bool
 now : Feat
 deriving DecidableEq
structure mP7 where
 up : List Int
 note : Str
 diff : List jV7
 deriving DecidableEq
structure Commit where
 up : List Int
 sheet : List Feat
 note : Str
 deriving DecidableEq
structure Head where
 name : Str
 at_ : Int
 deriving DecidableEq
structure am7 where
 commits : List Commit
 heads : List Head
 deriving DecidableEq
structure aw7 where
 id : Str
 what : Str
 deriving DecidableEq
structure cK7 where
 a : Int
 b : Int
 deriving DecidableEq
structure Val where
 has : Bool
 val : Str
 deriving DecidableEq
structure dl7 where
 has : Bool
 f : Feat
 deriving DecidableEq
structure Rd where
 b : List UInt8
 p : Int
 deriving DecidableEq
def sl (m : Bool) (k : Nat) (rows : Rows) : T := match m with
 | true => .sl true k rows
 | false => .sl false (k % 16) rows
def bn7 (n : Int) : List T := [.v (.int .i64 n)]
def bK7 (n : Bool) : List T := [.v (.bool n)]
def eU8 (n : UInt8) : List T := [.v (.int .u8 n.toNat)]
def eB8 (n : Int) : List T := [.v (.int .u8 n)]
def eSl {α : Type} (m : Bool) (k : Nat) (f : α → List T) (xs : List α) : List T := [sl m k (xs.map f)]
def ePt (p : Pt) : List T := [.v (.int .i64 p.x), .v (.int .i64 p.y)]
def be7 (p : Tag) : List T := [.v (.string p.key), .v (.string p.val)]
def av7 (p : Head) : List T := [.v (.string p.name), .v (.int .i64 p.at_)]
def bg7 (p : aw7) : List T := [.v (.string p.id), .v (.string p.what)]
def fi7 (p : cK7) : List T := [.v (.int .i64 p.a), .v (.int .i64 p.b)]
def Gd7 (p : Val) : List T := [.v (.bool p.has), .v (.string p.val)]
def hf7 (m : Bool) (s : aI7) : List T := [.v (.int .i64 s.kind), sl m 66 (s.pts.map ePt)]
def ak7 (m : Bool) (f : Feat) : List T := [.v (.string f.id), .v (.int .i64 f.shape.kind), sl m 66 (f.shape.pts.map ePt), sl m 82 (f.tags.map be7)]
def cB7 (m : Bool) (c : jV7) : List T := [.v (.string c.id), .v (.bool c.had), .v (.string c.was.id), .v (.int .i64 c.was.shape.kind), sl m 66 (c.was.shape.pts.map ePt), sl m 82 (c.was.tags.map be7), .v (.bool c.has), .v (.string c.now.id), .v (.int .i64 c.now.shape.kind), sl m 66 (c.now.shape.pts.map ePt), sl m 82 (c.now.tags.map be7)]
def f67 (m : Bool) (e : mP7) : List T := [sl m 17 (e.up.map bn7), .v (.string e.note), sl m 155 (e.diff.map (cB7 m))]
def hH7 (e : mP7) : List T := [sl true 17 (e.up.map bn7), .v (.string e.note), sl false 155 (e.diff.map (cB7 false))]
def af7 (m : Bool) (c : Commit) : List T := [sl m 17 (c.up.map bn7), sl m 100 (c.sheet.map (ak7 m)), .v (.string c.note)]
def ig7 (m : Bool) (r : am7) : List T := [sl m 115 (r.commits.map (af7 m)), sl m 130 (r.heads.map av7)]
def bi7 (c : Commit) : List T := [sl true 17 (c.up.map bn7), sl false 100 (c.sheet.map (ak7 false)), .v (.string c.note)]
def w37 (r : am7) : List T := [sl true 115 (r.commits.map bi7), sl true 130 (r.heads.map av7)]
def p27 (m : Bool) (p : dl7) : List T := .v (.bool p.has) :: ak7 m p.f
theorem w47 {α : Type} {f : α → List T} (hf : ∀ a b, f a = f b → a = b) : ∀ {xs ys : List α}, xs.map f = ys.map f → xs = ys
 | [], [], _ => rfl
 | x :: xs, y :: ys, h => by
  simp only [List.map_cons, List.cons.injEq] at h
  rw [hf _ _ h.1, w47 hf h.2]
 | [], _ :: _, h => by simp at h
 | _ :: _, [], h => by simp at h
theorem Ge7 {m : Bool} {k : Nat} {a b : Rows} (h : sl m k a = sl m k b) : a = b := by cases m <;> simpa [sl] using h
theorem QG7 {α : Type} {f : α → List T} {xs : List α} {i : Nat} {x : α} (h : xs[i]? = some x) : (xs.map f)[i]? = some (f x) := by rw [List.getElem?_map, h]; rfl
theorem aP7 {n : Int} (h : -9223372036854775808 ≤ n) (h' : n ≤ 9223372036854775807) : IntKind.i64.wrap n = n := by
 rw [IntKind.wrap_i64]; omega
theorem Rc7 {t : Tm} {d : Nat} {x : AV} (h : t d = x) : t = aD7 t (some d) x := by
 funext i
 simp only [aD7]
 split
 ·rename_i e; rw [e]; exact h
 ·rfl
theorem Rd7 {o : aj7} {n : Nat} {e : Ent} (h : o n = some e) : o = upd o n (some e) := by
 funext i
 simp only [upd]
 split
 ·rename_i e; rw [e]; exact h
 ·rfl
theorem dT7 {α : Type} {f g : α → List T} (he : ∀ x, erL (f x) = some (g x)) : ∀ xs : List α, erR (xs.map f) = some (xs.map g)
 | [] => rfl
 | x :: xs => by simp only [List.map_cons, erR, he, dT7 he xs]
theorem fj7 : erL [] = some [] := rfl
theorem hI7 {v : Value} {cs ds : List T} (h : erL cs = some ds) : erL (.v v :: cs) = some (.v v :: ds) := by simp only [erL, erT, h]
theorem cX7 {α : Type} {m : Bool} {k : Nat} {f g : α → List T} {xs : List α} {cs ds : List T} (he : ∀ x, erL (f x) = some (g x)) (h : erL cs = some ds) : erL (sl m k (xs.map f) :: cs) = some (sl false k (xs.map g) :: ds) := by
 cases m <;> simp only [erL, sl, erT, dT7 he, h, Option.map_some, Nat.mod_mod]
theorem ny7 (x : Int) : erL (bn7 x) = some (bn7 x) := rfl
theorem w57 (x : Bool) : erL (bK7 x) = some (bK7 x) := rfl
theorem Nh7 (x : UInt8) : erL (eU8 x) = some (eU8 x) := rfl
theorem Ni7 (x : Int) : erL (eB8 x) = some (eB8 x) := rfl
theorem Gf7 (x : Str) : erL (cI7 x) = some (cI7 x) := rfl
theorem vs7 (x : Pt) : erL (ePt x) = some (ePt x) := rfl
theorem p37 (x : Tag) : erL (be7 x) = some (be7 x) := rfl
theorem w67 (x : Head) : erL (av7 x) = some (av7 x) := rfl
theorem zC7 (x : aw7) : erL (bg7 x) = some (bg7 x) := rfl
theorem CS7 (x : cK7) : erL (fi7 x) = some (fi7 x) := rfl
theorem Gg7 (x : Val) : erL (Gd7 x) = some (Gd7 x) := rfl
theorem zD7 {α : Type} {m : Bool} {k : Nat} {f g : α → List T} (he : ∀ x, erL (f x) = some (g x)) (xs : List α) : erL (eSl m k f xs) = some (eSl false k g xs) := cX7 he fj7
theorem zE7 {m : Bool} (x : aI7) : erL (hf7 m x) = some (hf7 false x) := hI7 (cX7 vs7 fj7)
theorem gs7 {m : Bool} (x : Feat) : erL (ak7 m x) = some (ak7 false x) := hI7 (hI7 (cX7 vs7 (cX7 p37 fj7)))
theorem eT7 {m : Bool} (x : jV7) : erL (cB7 m x) = some (cB7 false x) := hI7 (hI7 (hI7 (hI7 (cX7 vs7 (cX7 p37 (hI7 (hI7 (hI7 (cX7 vs7 (cX7 p37 fj7))))))))))
theorem zF7 {m : Bool} (x : mP7) : erL (f67 m x) = some (f67 false x) := cX7 ny7 (hI7 (cX7 eT7 fj7))
theorem p47 {m : Bool} (x : Commit) : erL (af7 m x) = some (af7 false x) := cX7 ny7 (cX7 gs7 (hI7 fj7))
theorem CT7 {m : Bool} (x : am7) : erL (ig7 m x) = some (ig7 false x) := cX7 p47 (cX7 w67 fj7)
theorem zG7 {m : Bool} (x : dl7) : erL (p27 m x) = some (p27 false x) := hI7 (gs7 x.f)
theorem w77 (x : mP7) : erL (hH7 x) = some (f67 false x) := cX7 ny7 (hI7 (cX7 eT7 fj7))
theorem vt7 (x : Commit) : erL (bi7 x) = some (af7 false x) := cX7 ny7 (cX7 gs7 (hI7 fj7))
theorem c87 {α : Type} {j : Nat} {f g : α → List T} (h : ∀ x, py7 j (f x) = some (g x)) : ∀ xs : List α, du7 j (xs.map f) = some (xs.map g)
 | [] => rfl
 | x :: xs => by simp only [List.map_cons, du7, h, c87 h xs]
theorem lp7 (xs : List Commit) : du7 1 (xs.map (af7 true)) = some (xs.map bi7) := c87 (fun x => by
 simp [py7, af7, bi7, sl, erT, dT7 gs7]) xs
theorem zH7 (xs : List mP7) : du7 2 (xs.map (f67 true)) = some (xs.map hH7) := c87 (fun x => by
 simp [py7, f67, hH7, sl, erT, dT7 eT7]) xs
theorem w87 (xs : List mP7) : du7 2 (xs.map hH7) = some (xs.map hH7) := c87 (fun x => by
 simp [py7, hH7, sl, erT, dT7 eT7]) xs
theorem w97 (xs : List jV7) : du7 16 (xs.map (cB7 true)) = some (xs.map (cB7 false)) := c87 (fun x => (if_pos (Nat.le_refl 16)).trans (eT7 x)) xs
theorem CU7 (xs : List Feat) : du7 16 (xs.map (ak7 true)) = some (xs.map (ak7 false)) := c87 (fun x => (if_pos (Nat.le_refl 16)).trans (gs7 x)) xs
theorem nz7 (xs : List Commit) : du7 1 (xs.map bi7) = some (xs.map bi7) := c87 (fun x => by
 simp [py7, bi7, sl, erT, dT7 gs7]) xs
theorem oz7 : d17 [] = true := rfl
theorem ih7 {r : List T} {rs : List (List T)} (h : fa7 r = true) (h' : d17 rs = true) : d17 (r :: rs) = true := by simp only [d17, h, h', Bool.and_self]
theorem de7 : fa7 [] = true := rfl
theorem g67 {v : Value} {cs : List T} (h : fa7 cs = true) : fa7 (.v v :: cs) = true := by simp only [fa7, zq7, h, Bool.and_self]
theorem bo7 {α : Type} {f : α → List T} (he : ∀ x, fa7 (f x) = true) : ∀ xs : List α, d17 (xs.map f) = true
 | [] => rfl
 | x :: xs => ih7 (he x) (bo7 he xs)
theorem cY7 {α : Type} {k : Nat} {f : α → List T} {xs : List α} {cs : List T} (he : ∀ x, fa7 (f x) = true) (h : fa7 cs = true) : fa7 (sl true k (xs.map f) :: cs) = true := by simp only [fa7, sl, zq7, bo7 he, h, Bool.and_self]
theorem sE7 {α : Type} {k : Nat} {f : α → List T} {xs : List α} {cs : List T} (he : ∀ x, fa7 (f x) = true) (h : fa7 cs = true) : fa7 (.sl true k (xs.map f) :: cs) = true := cY7 he h
theorem nA7 (x : Pt) : fa7 (ePt x) = true := rfl
theorem jh7 (x : Int) : fa7 (bn7 x) = true := rfl
theorem kB7 (x : Bool) : fa7 (bK7 x) = true := rfl
theorem BQ7 (x : UInt8) : fa7 (eU8 x) = true := rfl
theorem BR7 (x : Int) : fa7 (eB8 x) = true := rfl
theorem xa7 (x : Str) : fa7 (cI7 x) = true := rfl
theorem hJ7 (x : Tag) : fa7 (be7 x) = true := rfl
theorem oA7 (x : Head) : fa7 (av7 x) = true := rfl
theorem p57 (x : aw7) : fa7 (bg7 x) = true := rfl
theorem tN7 (x : cK7) : fa7 (fi7 x) = true := rfl
theorem xb7 (x : Val) : fa7 (Gd7 x) = true := rfl
theorem jW7 {α : Type} {k : Nat} {f : α → List T} (he : ∀ x, fa7 (f x) = true) (xs : List α) : fa7 (eSl true k f xs) = true := cY7 he de7
theorem p67 (x : aI7) : fa7 (hf7 true x) = true := g67 (cY7 nA7 de7)
theorem gQ7 (x : Feat) : fa7 (ak7 true x) = true := g67 (g67 (cY7 nA7 (cY7 hJ7 de7)))
theorem ji7 (x : jV7) : fa7 (cB7 true x) = true := g67 (g67 (g67 (g67 (cY7 nA7 (cY7 hJ7 (g67 (g67 (g67 (cY7 nA7 (cY7 hJ7 de7))))))))))
theorem p77 (x : mP7) : fa7 (f67 true x) = true := cY7 jh7 (g67 (cY7 ji7 de7))
theorem jj7 (x : Commit) : fa7 (af7 true x) = true := cY7 jh7 (cY7 gQ7 (g67 de7))
theorem tO7 (x : am7) : fa7 (ig7 true x) = true := cY7 jj7 (cY7 oA7 de7)
theorem p87 (x : dl7) : fa7 (p27 true x) = true := g67 (gQ7 x.f)
end Go.Proofs.AM
