/- Lemmas of the proof (E), on an abstract machine. Conditions: none. -/
import Derived.Test.YtnnfdbdheoajgaaGreatV
set_option linter.unusedVariables false
namespace Go.Proofs.AM
abbrev Str := ByteArray
structure Pt where
 x : Int
 y : Int
 deriving DecidableEq
structure Tag where
 key : Str
 val : Str
 deriving DecidableEq
structure aJ7 where
 kind : Int
 pts : List Pt
 deriving DecidableEq
structure Feat where
 id : Str
 shape : aJ7
 tags : List Tag
 deriving DecidableEq
structure jR7 where
 id : Str
 had : Bool
 was : Feat
 has : Bool
 now : Feat
 deriving DecidableEq
structure mO7 where
 up : List Int
 note : Str
 diff : List jR7
 deriving DecidableEq
structure Commit where
 up : List Int
 sheet : List Feat
 note : Str
 deriving DecidableEq
structure Head where
 name : Str
 at_ : Int
 deriving DecidableEq
structure ao7 where
 commits : List Commit
 heads : List Head
 deriving DecidableEq
structure aE7 where
 id : Str
 what : Str
 deriving DecidableEq
structure cN7 where
 a : Int
 b : Int
 deriving DecidableEq
structure Val where
 has : Bool
 val : Str
 deriving DecidableEq
structure dp7 where
 has : Bool
 f : Feat
 deriving DecidableEq
structure Rd where
 b : List UInt8
 p : Int
 deriving DecidableEq
def sl (m : Bool) (k : Nat) (rows : Rows) : T := match m with
 | true => .sl true k rows
 | false => .sl false (k % 16) rows
def bm7 (n : Int) : List T := [.v (.int .i64 n)]
def bH7 (n : Bool) : List T := [.v (.bool n)]
def eU8 (n : UInt8) : List T := [.v (.int .u8 n.toNat)]
def eB8 (n : Int) : List T := [.v (.int .u8 n)]
def eSl {α : Type} (m : Bool) (k : Nat) (f : α → List T) (xs : List α) : List T := [sl m k (xs.map f)]
def ePt (p : Pt) : List T := [.v (.int .i64 p.x), .v (.int .i64 p.y)]
def be7 (p : Tag) : List T := [.v (.string p.key), .v (.string p.val)]
def aw7 (p : Head) : List T := [.v (.string p.name), .v (.int .i64 p.at_)]
def bw7 (p : aE7) : List T := [.v (.string p.id), .v (.string p.what)]
def fk7 (p : cN7) : List T := [.v (.int .i64 p.a), .v (.int .i64 p.b)]
def F17 (p : Val) : List T := [.v (.bool p.has), .v (.string p.val)]
def hd7 (m : Bool) (s : aJ7) : List T := [.v (.int .i64 s.kind), sl m 66 (s.pts.map ePt)]
def ak7 (m : Bool) (f : Feat) : List T := [.v (.string f.id), .v (.int .i64 f.shape.kind), sl m 66 (f.shape.pts.map ePt), sl m 82 (f.tags.map be7)]
def cC7 (m : Bool) (c : jR7) : List T := [.v (.string c.id), .v (.bool c.had), .v (.string c.was.id), .v (.int .i64 c.was.shape.kind), sl m 66 (c.was.shape.pts.map ePt), sl m 82 (c.was.tags.map be7), .v (.bool c.has), .v (.string c.now.id), .v (.int .i64 c.now.shape.kind), sl m 66 (c.now.shape.pts.map ePt), sl m 82 (c.now.tags.map be7)]
def f87 (m : Bool) (e : mO7) : List T := [sl m 17 (e.up.map bm7), .v (.string e.note), sl m 155 (e.diff.map (cC7 m))]
def hE7 (e : mO7) : List T := [sl true 17 (e.up.map bm7), .v (.string e.note), sl false 155 (e.diff.map (cC7 false))]
def af7 (m : Bool) (c : Commit) : List T := [sl m 17 (c.up.map bm7), sl m 100 (c.sheet.map (ak7 m)), .v (.string c.note)]
def jc7 (m : Bool) (r : ao7) : List T := [sl m 115 (r.commits.map (af7 m)), sl m 130 (r.heads.map aw7)]
def bg7 (c : Commit) : List T := [sl true 17 (c.up.map bm7), sl false 100 (c.sheet.map (ak7 false)), .v (.string c.note)]
def wX7 (r : ao7) : List T := [sl true 115 (r.commits.map bg7), sl true 130 (r.heads.map aw7)]
def p47 (m : Bool) (p : dp7) : List T := .v (.bool p.has) :: ak7 m p.f
theorem wY7 {α : Type} {f : α → List T} (hf : ∀ a b, f a = f b → a = b) : ∀ {xs ys : List α}, xs.map f = ys.map f → xs = ys
 | [], [], _ => rfl
 | x :: xs, y :: ys, h => by
  simp only [List.map_cons, List.cons.injEq] at h
  rw [hf _ _ h.1, wY7 hf h.2]
 | [], _ :: _, h => by simp at h
 | _ :: _, [], h => by simp at h
theorem F27 {m : Bool} {k : Nat} {a b : Rows} (h : sl m k a = sl m k b) : a = b := by cases m <;> simpa [sl] using h
theorem Qn7 {α : Type} {f : α → List T} {xs : List α} {i : Nat} {x : α} (h : xs[i]? = some x) : (xs.map f)[i]? = some (f x) := by rw [List.getElem?_map, h]; rfl
theorem aO7 {n : Int} (h : -9223372036854775808 ≤ n) (h' : n ≤ 9223372036854775807) : IntKind.i64.wrap n = n := by
 rw [IntKind.wrap_i64]; omega
theorem QT7 {t : Tm} {d : Nat} {x : AV} (h : t d = x) : t = aD7 t (some d) x := by
 funext i
 simp only [aD7]
 split
 ·rename_i e; rw [e]; exact h
 ·rfl
theorem QU7 {o : aj7} {n : Nat} {e : Ent} (h : o n = some e) : o = upd o n (some e) := by
 funext i
 simp only [upd]
 split
 ·rename_i e; rw [e]; exact h
 ·rfl
theorem dV7 {α : Type} {f g : α → List T} (he : ∀ x, erL (f x) = some (g x)) : ∀ xs : List α, erR (xs.map f) = some (xs.map g)
 | [] => rfl
 | x :: xs => by simp only [List.map_cons, erR, he, dV7 he xs]
theorem fl7 : erL [] = some [] := rfl
theorem hF7 {v : Value} {cs ds : List T} (h : erL cs = some ds) : erL (.v v :: cs) = some (.v v :: ds) := by simp only [erL, erT, h]
theorem c07 {α : Type} {m : Bool} {k : Nat} {f g : α → List T} {xs : List α} {cs ds : List T} (he : ∀ x, erL (f x) = some (g x)) (h : erL cs = some ds) : erL (sl m k (xs.map f) :: cs) = some (sl false k (xs.map g) :: ds) := by
 cases m <;> simp only [erL, sl, erT, dV7 he, h, Option.map_some, Nat.mod_mod]
theorem nx7 (x : Int) : erL (bm7 x) = some (bm7 x) := rfl
theorem wZ7 (x : Bool) : erL (bH7 x) = some (bH7 x) := rfl
theorem MZ7 (x : UInt8) : erL (eU8 x) = some (eU8 x) := rfl
theorem M07 (x : Int) : erL (eB8 x) = some (eB8 x) := rfl
theorem F37 (x : Str) : erL (cL7 x) = some (cL7 x) := rfl
theorem vn7 (x : Pt) : erL (ePt x) = some (ePt x) := rfl
theorem p57 (x : Tag) : erL (be7 x) = some (be7 x) := rfl
theorem w07 (x : Head) : erL (aw7 x) = some (aw7 x) := rfl
theorem zx7 (x : aE7) : erL (bw7 x) = some (bw7 x) := rfl
theorem CJ7 (x : cN7) : erL (fk7 x) = some (fk7 x) := rfl
theorem F47 (x : Val) : erL (F17 x) = some (F17 x) := rfl
theorem zy7 {α : Type} {m : Bool} {k : Nat} {f g : α → List T} (he : ∀ x, erL (f x) = some (g x)) (xs : List α) : erL (eSl m k f xs) = some (eSl false k g xs) := c07 he fl7
theorem zz7 {m : Bool} (x : aJ7) : erL (hd7 m x) = some (hd7 false x) := hF7 (c07 vn7 fl7)
theorem gs7 {m : Bool} (x : Feat) : erL (ak7 m x) = some (ak7 false x) := hF7 (hF7 (c07 vn7 (c07 p57 fl7)))
theorem eW7 {m : Bool} (x : jR7) : erL (cC7 m x) = some (cC7 false x) := hF7 (hF7 (hF7 (hF7 (c07 vn7 (c07 p57 (hF7 (hF7 (hF7 (c07 vn7 (c07 p57 fl7))))))))))
theorem zA7 {m : Bool} (x : mO7) : erL (f87 m x) = some (f87 false x) := c07 nx7 (hF7 (c07 eW7 fl7))
theorem p67 {m : Bool} (x : Commit) : erL (af7 m x) = some (af7 false x) := c07 nx7 (c07 gs7 (hF7 fl7))
theorem CK7 {m : Bool} (x : ao7) : erL (jc7 m x) = some (jc7 false x) := c07 p67 (c07 w07 fl7)
theorem zB7 {m : Bool} (x : dp7) : erL (p47 m x) = some (p47 false x) := hF7 (gs7 x.f)
theorem w17 (x : mO7) : erL (hE7 x) = some (f87 false x) := c07 nx7 (hF7 (c07 eW7 fl7))
theorem vo7 (x : Commit) : erL (bg7 x) = some (af7 false x) := c07 nx7 (c07 gs7 (hF7 fl7))
theorem db7 {α : Type} {j : Nat} {f g : α → List T} (h : ∀ x, pA7 j (f x) = some (g x)) : ∀ xs : List α, dv7 j (xs.map f) = some (xs.map g)
 | [] => rfl
 | x :: xs => by simp only [List.map_cons, dv7, h, db7 h xs]
theorem lm7 (xs : List Commit) : dv7 1 (xs.map (af7 true)) = some (xs.map bg7) := db7 (fun x => by
 simp [pA7, af7, bg7, sl, erT, dV7 gs7]) xs
theorem zC7 (xs : List mO7) : dv7 2 (xs.map (f87 true)) = some (xs.map hE7) := db7 (fun x => by
 simp [pA7, f87, hE7, sl, erT, dV7 eW7]) xs
theorem w27 (xs : List mO7) : dv7 2 (xs.map hE7) = some (xs.map hE7) := db7 (fun x => by
 simp [pA7, hE7, sl, erT, dV7 eW7]) xs
theorem w37 (xs : List jR7) : dv7 16 (xs.map (cC7 true)) = some (xs.map (cC7 false)) := db7 (fun x => (if_pos (Nat.le_refl 16)).trans (eW7 x)) xs
theorem CL7 (xs : List Feat) : dv7 16 (xs.map (ak7 true)) = some (xs.map (ak7 false)) := db7 (fun x => (if_pos (Nat.le_refl 16)).trans (gs7 x)) xs
theorem ny7 (xs : List Commit) : dv7 1 (xs.map bg7) = some (xs.map bg7) := db7 (fun x => by
 simp [pA7, bg7, sl, erT, dV7 gs7]) xs
theorem oy7 : d27 [] = true := rfl
theorem if7 {r : List T} {rs : List (List T)} (h : fc7 r = true) (h' : d27 rs = true) : d27 (r :: rs) = true := by simp only [d27, h, h', Bool.and_self]
theorem di7 : fc7 [] = true := rfl
theorem g47 {v : Value} {cs : List T} (h : fc7 cs = true) : fc7 (.v v :: cs) = true := by simp only [fc7, zl7, h, Bool.and_self]
theorem bn7 {α : Type} {f : α → List T} (he : ∀ x, fc7 (f x) = true) : ∀ xs : List α, d27 (xs.map f) = true
 | [] => rfl
 | x :: xs => if7 (he x) (bn7 he xs)
theorem c27 {α : Type} {k : Nat} {f : α → List T} {xs : List α} {cs : List T} (he : ∀ x, fc7 (f x) = true) (h : fc7 cs = true) : fc7 (sl true k (xs.map f) :: cs) = true := by simp only [fc7, sl, zl7, bn7 he, h, Bool.and_self]
theorem sB7 {α : Type} {k : Nat} {f : α → List T} {xs : List α} {cs : List T} (he : ∀ x, fc7 (f x) = true) (h : fc7 cs = true) : fc7 (.sl true k (xs.map f) :: cs) = true := c27 he h
theorem nz7 (x : Pt) : fc7 (ePt x) = true := rfl
theorem jd7 (x : Int) : fc7 (bm7 x) = true := rfl
theorem kz7 (x : Bool) : fc7 (bH7 x) = true := rfl
theorem BH7 (x : UInt8) : fc7 (eU8 x) = true := rfl
theorem BI7 (x : Int) : fc7 (eB8 x) = true := rfl
theorem w47 (x : Str) : fc7 (cL7 x) = true := rfl
theorem hG7 (x : Tag) : fc7 (be7 x) = true := rfl
theorem oz7 (x : Head) : fc7 (aw7 x) = true := rfl
theorem p77 (x : aE7) : fc7 (bw7 x) = true := rfl
theorem tH7 (x : cN7) : fc7 (fk7 x) = true := rfl
theorem w57 (x : Val) : fc7 (F17 x) = true := rfl
theorem jS7 {α : Type} {k : Nat} {f : α → List T} (he : ∀ x, fc7 (f x) = true) (xs : List α) : fc7 (eSl true k f xs) = true := c27 he di7
theorem p87 (x : aJ7) : fc7 (hd7 true x) = true := g47 (c27 nz7 di7)
theorem gN7 (x : Feat) : fc7 (ak7 true x) = true := g47 (g47 (c27 nz7 (c27 hG7 di7)))
theorem je7 (x : jR7) : fc7 (cC7 true x) = true := g47 (g47 (g47 (g47 (c27 nz7 (c27 hG7 (g47 (g47 (g47 (c27 nz7 (c27 hG7 di7))))))))))
theorem p97 (x : mO7) : fc7 (f87 true x) = true := c27 jd7 (g47 (c27 je7 di7))
theorem jf7 (x : Commit) : fc7 (af7 true x) = true := c27 jd7 (c27 gN7 (g47 di7))
theorem tI7 (x : ao7) : fc7 (jc7 true x) = true := c27 jf7 (c27 oz7 di7)
theorem qa7 (x : dp7) : fc7 (p47 true x) = true := g47 (gN7 x.f)
end Go.Proofs.AM
