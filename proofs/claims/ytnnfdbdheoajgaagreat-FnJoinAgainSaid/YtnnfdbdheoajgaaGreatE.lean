/- Lemmas of the proof (E), on an abstract machine. Conditions: none. -/
import Derived.Test.YtnnfdbdheoajgaaGreatV
set_option linter.unusedVariables false
namespace Go.Proofs.AM
abbrev Str := ByteArray
structure Pt where
 x : Int
 y : Int
 deriving DecidableEq
structure Tag where
 key : Str
 val : Str
 deriving DecidableEq
structure aJ7 where
 kind : Int
 pts : List Pt
 deriving DecidableEq
structure Feat where
 id : Str
 shape : aJ7
 tags : List Tag
 deriving DecidableEq
structure jP7 where
 id : Str
 had : Bool
 was : Feat
 has : Bool
 now : Feat
 deriving DecidableEq
structure mI7 where
 up : List Int
 note : Str
 diff : List jP7
 deriving DecidableEq
structure Commit where
 up : List Int
 sheet : List Feat
 note : Str
 deriving DecidableEq
structure Head where
 name : Str
 at_ : Int
 deriving DecidableEq
structure am7 where
 commits : List Commit
 heads : List Head
 deriving DecidableEq
structure aF7 where
 id : Str
 what : Str
 deriving DecidableEq
structure cL7 where
 a : Int
 b : Int
 deriving DecidableEq
structure Val where
 has : Bool
 val : Str
 deriving DecidableEq
structure dm7 where
 has : Bool
 f : Feat
 deriving DecidableEq
structure Rd where
 b : List UInt8
 p : Int
 deriving DecidableEq
def sl (m : Bool) (k : Nat) (rows : Rows) : T := match m with
 | true => .sl true k rows
 | false => .sl false (k % 16) rows
def bn7 (n : Int) : List T := [.v (.int .i64 n)]
def bH7 (n : Bool) : List T := [.v (.bool n)]
def eU8 (n : UInt8) : List T := [.v (.int .u8 n.toNat)]
def eB8 (n : Int) : List T := [.v (.int .u8 n)]
def eSl {α : Type} (m : Bool) (k : Nat) (f : α → List T) (xs : List α) : List T := [sl m k (xs.map f)]
def ePt (p : Pt) : List T := [.v (.int .i64 p.x), .v (.int .i64 p.y)]
def be7 (p : Tag) : List T := [.v (.string p.key), .v (.string p.val)]
def av7 (p : Head) : List T := [.v (.string p.name), .v (.int .i64 p.at_)]
def bx7 (p : aF7) : List T := [.v (.string p.id), .v (.string p.what)]
def ff7 (p : cL7) : List T := [.v (.int .i64 p.a), .v (.int .i64 p.b)]
def FT7 (p : Val) : List T := [.v (.bool p.has), .v (.string p.val)]
def hc7 (m : Bool) (s : aJ7) : List T := [.v (.int .i64 s.kind), sl m 66 (s.pts.map ePt)]
def ak7 (m : Bool) (f : Feat) : List T := [.v (.string f.id), .v (.int .i64 f.shape.kind), sl m 66 (f.shape.pts.map ePt), sl m 82 (f.tags.map be7)]
def cB7 (m : Bool) (c : jP7) : List T := [.v (.string c.id), .v (.bool c.had), .v (.string c.was.id), .v (.int .i64 c.was.shape.kind), sl m 66 (c.was.shape.pts.map ePt), sl m 82 (c.was.tags.map be7), .v (.bool c.has), .v (.string c.now.id), .v (.int .i64 c.now.shape.kind), sl m 66 (c.now.shape.pts.map ePt), sl m 82 (c.now.tags.map be7)]
def f77 (m : Bool) (e : mI7) : List T := [sl m 17 (e.up.map bn7), .v (.string e.note), sl m 155 (e.diff.map (cB7 m))]
def hC7 (e : mI7) : List T := [sl true 17 (e.up.map bn7), .v (.string e.note), sl false 155 (e.diff.map (cB7 false))]
def af7 (m : Bool) (c : Commit) : List T := [sl m 17 (c.up.map bn7), sl m 100 (c.sheet.map (ak7 m)), .v (.string c.note)]
def ja7 (m : Bool) (r : am7) : List T := [sl m 115 (r.commits.map (af7 m)), sl m 130 (r.heads.map av7)]
def bg7 (c : Commit) : List T := [sl true 17 (c.up.map bn7), sl false 100 (c.sheet.map (ak7 false)), .v (.string c.note)]
def wN7 (r : am7) : List T := [sl true 115 (r.commits.map bg7), sl true 130 (r.heads.map av7)]
def p17 (m : Bool) (p : dm7) : List T := .v (.bool p.has) :: ak7 m p.f
theorem wO7 {α : Type} {f : α → List T} (hf : ∀ a b, f a = f b → a = b) : ∀ {xs ys : List α}, xs.map f = ys.map f → xs = ys
 | [], [], _ => rfl
 | x :: xs, y :: ys, h => by
  simp only [List.map_cons, List.cons.injEq] at h
  rw [hf _ _ h.1, wO7 hf h.2]
 | [], _ :: _, h => by simp at h
 | _ :: _, [], h => by simp at h
theorem FU7 {m : Bool} {k : Nat} {a b : Rows} (h : sl m k a = sl m k b) : a = b := by cases m <;> simpa [sl] using h
theorem Qb7 {α : Type} {f : α → List T} {xs : List α} {i : Nat} {x : α} (h : xs[i]? = some x) : (xs.map f)[i]? = some (f x) := by rw [List.getElem?_map, h]; rfl
theorem aP7 {n : Int} (h : -9223372036854775808 ≤ n) (h' : n ≤ 9223372036854775807) : IntKind.i64.wrap n = n := by
 rw [IntKind.wrap_i64]; omega
theorem QH7 {t : Tm} {d : Nat} {x : AV} (h : t d = x) : t = aD7 t (some d) x := by
 funext i
 simp only [aD7]
 split
 ·rename_i e; rw [e]; exact h
 ·rfl
theorem QI7 {o : aj7} {n : Nat} {e : Ent} (h : o n = some e) : o = upd o n (some e) := by
 funext i
 simp only [upd]
 split
 ·rename_i e; rw [e]; exact h
 ·rfl
theorem dS7 {α : Type} {f g : α → List T} (he : ∀ x, erL (f x) = some (g x)) : ∀ xs : List α, erR (xs.map f) = some (xs.map g)
 | [] => rfl
 | x :: xs => by simp only [List.map_cons, erR, he, dS7 he xs]
theorem fg7 : erL [] = some [] := rfl
theorem hD7 {v : Value} {cs ds : List T} (h : erL cs = some ds) : erL (.v v :: cs) = some (.v v :: ds) := by simp only [erL, erT, h]
theorem cY7 {α : Type} {m : Bool} {k : Nat} {f g : α → List T} {xs : List α} {cs ds : List T} (he : ∀ x, erL (f x) = some (g x)) (h : erL cs = some ds) : erL (sl m k (xs.map f) :: cs) = some (sl false k (xs.map g) :: ds) := by
 cases m <;> simp only [erL, sl, erT, dS7 he, h, Option.map_some, Nat.mod_mod]
theorem nq7 (x : Int) : erL (bn7 x) = some (bn7 x) := rfl
theorem wP7 (x : Bool) : erL (bH7 x) = some (bH7 x) := rfl
theorem MP7 (x : UInt8) : erL (eU8 x) = some (eU8 x) := rfl
theorem MQ7 (x : Int) : erL (eB8 x) = some (eB8 x) := rfl
theorem FV7 (x : Str) : erL (cJ7 x) = some (cJ7 x) := rfl
theorem vk7 (x : Pt) : erL (ePt x) = some (ePt x) := rfl
theorem p27 (x : Tag) : erL (be7 x) = some (be7 x) := rfl
theorem wQ7 (x : Head) : erL (av7 x) = some (av7 x) := rfl
theorem zp7 (x : aF7) : erL (bx7 x) = some (bx7 x) := rfl
theorem Cz7 (x : cL7) : erL (ff7 x) = some (ff7 x) := rfl
theorem FW7 (x : Val) : erL (FT7 x) = some (FT7 x) := rfl
theorem zq7 {α : Type} {m : Bool} {k : Nat} {f g : α → List T} (he : ∀ x, erL (f x) = some (g x)) (xs : List α) : erL (eSl m k f xs) = some (eSl false k g xs) := cY7 he fg7
theorem zr7 {m : Bool} (x : aJ7) : erL (hc7 m x) = some (hc7 false x) := hD7 (cY7 vk7 fg7)
theorem gr7 {m : Bool} (x : Feat) : erL (ak7 m x) = some (ak7 false x) := hD7 (hD7 (cY7 vk7 (cY7 p27 fg7)))
theorem eP7 {m : Bool} (x : jP7) : erL (cB7 m x) = some (cB7 false x) := hD7 (hD7 (hD7 (hD7 (cY7 vk7 (cY7 p27 (hD7 (hD7 (hD7 (cY7 vk7 (cY7 p27 fg7))))))))))
theorem zs7 {m : Bool} (x : mI7) : erL (f77 m x) = some (f77 false x) := cY7 nq7 (hD7 (cY7 eP7 fg7))
theorem p37 {m : Bool} (x : Commit) : erL (af7 m x) = some (af7 false x) := cY7 nq7 (cY7 gr7 (hD7 fg7))
theorem CA7 {m : Bool} (x : am7) : erL (ja7 m x) = some (ja7 false x) := cY7 p37 (cY7 wQ7 fg7)
theorem zt7 {m : Bool} (x : dm7) : erL (p17 m x) = some (p17 false x) := hD7 (gr7 x.f)
theorem wR7 (x : mI7) : erL (hC7 x) = some (f77 false x) := cY7 nq7 (hD7 (cY7 eP7 fg7))
theorem vl7 (x : Commit) : erL (bg7 x) = some (af7 false x) := cY7 nq7 (cY7 gr7 (hD7 fg7))
theorem da7 {α : Type} {j : Nat} {f g : α → List T} (h : ∀ x, px7 j (f x) = some (g x)) : ∀ xs : List α, du7 j (xs.map f) = some (xs.map g)
 | [] => rfl
 | x :: xs => by simp only [List.map_cons, du7, h, da7 h xs]
theorem lh7 (xs : List Commit) : du7 1 (xs.map (af7 true)) = some (xs.map bg7) := da7 (fun x => by
 simp [px7, af7, bg7, sl, erT, dS7 gr7]) xs
theorem zu7 (xs : List mI7) : du7 2 (xs.map (f77 true)) = some (xs.map hC7) := da7 (fun x => by
 simp [px7, f77, hC7, sl, erT, dS7 eP7]) xs
theorem wS7 (xs : List mI7) : du7 2 (xs.map hC7) = some (xs.map hC7) := da7 (fun x => by
 simp [px7, hC7, sl, erT, dS7 eP7]) xs
theorem wT7 (xs : List jP7) : du7 16 (xs.map (cB7 true)) = some (xs.map (cB7 false)) := da7 (fun x => (if_pos (Nat.le_refl 16)).trans (eP7 x)) xs
theorem CB7 (xs : List Feat) : du7 16 (xs.map (ak7 true)) = some (xs.map (ak7 false)) := da7 (fun x => (if_pos (Nat.le_refl 16)).trans (gr7 x)) xs
theorem nr7 (xs : List Commit) : du7 1 (xs.map bg7) = some (xs.map bg7) := da7 (fun x => by
 simp [px7, bg7, sl, erT, dS7 gr7]) xs
theorem os7 : dY7 [] = true := rfl
theorem ia7 {r : List T} {rs : List (List T)} (h : e77 r = true) (h' : dY7 rs = true) : dY7 (r :: rs) = true := by simp only [dY7, h, h', Bool.and_self]
theorem df7 : e77 [] = true := rfl
theorem g37 {v : Value} {cs : List T} (h : e77 cs = true) : e77 (.v v :: cs) = true := by simp only [e77, zd7, h, Bool.and_self]
theorem bo7 {α : Type} {f : α → List T} (he : ∀ x, e77 (f x) = true) : ∀ xs : List α, dY7 (xs.map f) = true
 | [] => rfl
 | x :: xs => ia7 (he x) (bo7 he xs)
theorem cZ7 {α : Type} {k : Nat} {f : α → List T} {xs : List α} {cs : List T} (he : ∀ x, e77 (f x) = true) (h : e77 cs = true) : e77 (sl true k (xs.map f) :: cs) = true := by simp only [e77, sl, zd7, bo7 he, h, Bool.and_self]
theorem sw7 {α : Type} {k : Nat} {f : α → List T} {xs : List α} {cs : List T} (he : ∀ x, e77 (f x) = true) (h : e77 cs = true) : e77 (.sl true k (xs.map f) :: cs) = true := cZ7 he h
theorem ns7 (x : Pt) : e77 (ePt x) = true := rfl
theorem jb7 (x : Int) : e77 (bn7 x) = true := rfl
theorem ku7 (x : Bool) : e77 (bH7 x) = true := rfl
theorem Bx7 (x : UInt8) : e77 (eU8 x) = true := rfl
theorem By7 (x : Int) : e77 (eB8 x) = true := rfl
theorem wU7 (x : Str) : e77 (cJ7 x) = true := rfl
theorem hE7 (x : Tag) : e77 (be7 x) = true := rfl
theorem ot7 (x : Head) : e77 (av7 x) = true := rfl
theorem p47 (x : aF7) : e77 (bx7 x) = true := rfl
theorem tD7 (x : cL7) : e77 (ff7 x) = true := rfl
theorem wV7 (x : Val) : e77 (FT7 x) = true := rfl
theorem jQ7 {α : Type} {k : Nat} {f : α → List T} (he : ∀ x, e77 (f x) = true) (xs : List α) : e77 (eSl true k f xs) = true := cZ7 he df7
theorem p57 (x : aJ7) : e77 (hc7 true x) = true := g37 (cZ7 ns7 df7)
theorem gM7 (x : Feat) : e77 (ak7 true x) = true := g37 (g37 (cZ7 ns7 (cZ7 hE7 df7)))
theorem jc7 (x : jP7) : e77 (cB7 true x) = true := g37 (g37 (g37 (g37 (cZ7 ns7 (cZ7 hE7 (g37 (g37 (g37 (cZ7 ns7 (cZ7 hE7 df7))))))))))
theorem p67 (x : mI7) : e77 (f77 true x) = true := cZ7 jb7 (g37 (cZ7 jc7 df7))
theorem jd7 (x : Commit) : e77 (af7 true x) = true := cZ7 jb7 (cZ7 gM7 (g37 df7))
theorem tE7 (x : am7) : e77 (ja7 true x) = true := cZ7 jd7 (cZ7 ot7 df7)
theorem p77 (x : dm7) : e77 (p17 true x) = true := g37 (gM7 x.f)
end Go.Proofs.AM
