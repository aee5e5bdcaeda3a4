/- Lemmas of the proof (E), on an abstract machine. Conditions: none. -/
import Derived.Test.YtnnfdbdheoajgabGreatV
set_option linter.unusedVariables false
namespace Go.Proofs.AM
abbrev Str := ByteArray
structure Pt where
 x : Int
 y : Int
 deriving DecidableEq
structure Tag where
 key : Str
 val : Str
 deriving DecidableEq
structure aR7 where
 kind : Int
 pts : List Pt
 deriving DecidableEq
structure Feat where
 id : Str
 shape : aR7
 tags : List Tag
 deriving DecidableEq
structure jG7 where
 id : Str
 had : Bool
 was : Feat
 has : Bool
 now : Feat
 deriving DecidableEq
structure mG7 where
 up : List Int
 note : Str
 diff : List jG7
 deriving DecidableEq
structure Commit where
 up : List Int
 sheet : List Feat
 note : Str
 deriving DecidableEq
structure bg7 where
 name : Str
 at_ : Int
 deriving DecidableEq
structure az7 where
 commits : List Commit
 heads : List bg7
 deriving DecidableEq
structure ap7 where
 id : Str
 what : Str
 deriving DecidableEq
structure cv7 where
 a : Int
 b : Int
 deriving DecidableEq
structure Val where
 has : Bool
 val : Str
 deriving DecidableEq
structure db7 where
 has : Bool
 f : Feat
 deriving DecidableEq
structure Rd where
 b : List UInt8
 p : Int
 deriving DecidableEq
def sl (m : Bool) (k : Nat) (rows : Rows) : T := match m with
 | true => .sl true k rows
 | false => .sl false (k % 16) rows
def be7 (n : Int) : List T := [.v (.int .i64 n)]
def bI7 (n : Bool) : List T := [.v (.bool n)]
def eU8 (n : UInt8) : List T := [.v (.int .u8 n.toNat)]
def eB8 (n : Int) : List T := [.v (.int .u8 n)]
def eSl {α : Type} (m : Bool) (k : Nat) (f : α → List T) (xs : List α) : List T := [sl m k (xs.map f)]
def ePt (p : Pt) : List T := [.v (.int .i64 p.x), .v (.int .i64 p.y)]
def aX7 (p : Tag) : List T := [.v (.string p.key), .v (.string p.val)]
def aw7 (p : bg7) : List T := [.v (.string p.name), .v (.int .i64 p.at_)]
def aM7 (p : ap7) : List T := [.v (.string p.id), .v (.string p.what)]
def gd7 (p : cv7) : List T := [.v (.int .i64 p.a), .v (.int .i64 p.b)]
def H87 (p : Val) : List T := [.v (.bool p.has), .v (.string p.val)]
def hZ7 (m : Bool) (s : aR7) : List T := [.v (.int .i64 s.kind), sl m 66 (s.pts.map ePt)]
def am7 (m : Bool) (f : Feat) : List T := [.v (.string f.id), .v (.int .i64 f.shape.kind), sl m 66 (f.shape.pts.map ePt), sl m 82 (f.tags.map aX7)]
def co7 (m : Bool) (c : jG7) : List T := [.v (.string c.id), .v (.bool c.had), .v (.string c.was.id), .v (.int .i64 c.was.shape.kind), sl m 66 (c.was.shape.pts.map ePt), sl m 82 (c.was.tags.map aX7), .v (.bool c.has), .v (.string c.now.id), .v (.int .i64 c.now.shape.kind), sl m 66 (c.now.shape.pts.map ePt), sl m 82 (c.now.tags.map aX7)]
def fO7 (m : Bool) (e : mG7) : List T := [sl m 17 (e.up.map be7), .v (.string e.note), sl m 155 (e.diff.map (co7 m))]
def hy7 (e : mG7) : List T := [sl true 17 (e.up.map be7), .v (.string e.note), sl false 155 (e.diff.map (co7 false))]
def af7 (m : Bool) (c : Commit) : List T := [sl m 17 (c.up.map be7), sl m 100 (c.sheet.map (am7 m)), .v (.string c.note)]
def j47 (m : Bool) (r : az7) : List T := [sl m 115 (r.commits.map (af7 m)), sl m 130 (r.heads.map aw7)]
def eY7 (c : Commit) : List T := [sl true 17 (c.up.map be7), sl false 100 (c.sheet.map (am7 false)), .v (.string c.note)]
def p77 (m : Bool) (p : db7) : List T := .v (.bool p.has) :: am7 m p.f
theorem xL7 {α : Type} {f : α → List T} (hf : ∀ a b, f a = f b → a = b) : ∀ {xs ys : List α}, xs.map f = ys.map f → xs = ys
 | [], [], _ => rfl
 | x :: xs, y :: ys, h => by
  simp only [List.map_cons, List.cons.injEq] at h
  rw [hf _ _ h.1, xL7 hf h.2]
 | [], _ :: _, h => by simp at h
 | _ :: _, [], h => by simp at h
theorem H97 {m : Bool} {k : Nat} {a b : Rows} (h : sl m k a = sl m k b) : a = b := by cases m <;> simpa [sl] using h
theorem Ua7 {α : Type} {f : α → List T} {xs : List α} {i : Nat} {x : α} (h : xs[i]? = some x) : (xs.map f)[i]? = some (f x) := by rw [List.getElem?_map, h]; rfl
theorem bB7 {n : Int} (h : -9223372036854775808 ≤ n) (h' : n ≤ 9223372036854775807) : IntKind.i64.wrap n = n := by
 rw [IntKind.wrap_i64]; omega
theorem UC7 {t : Tm} {d : Nat} {x : AV} (h : t d = x) : t = aF7 t (some d) x := by
 funext i
 simp only [aF7]
 split
 ·rename_i e; rw [e]; exact h
 ·rfl
theorem UD7 {o : al7} {n : Nat} {e : Ent} (h : o n = some e) : o = upd o n (some e) := by
 funext i
 simp only [upd]
 split
 ·rename_i e; rw [e]; exact h
 ·rfl
theorem dF7 {α : Type} {f g : α → List T} (he : ∀ x, erL (f x) = some (g x)) : ∀ xs : List α, erR (xs.map f) = some (xs.map g)
 | [] => rfl
 | x :: xs => by simp only [List.map_cons, erR, he, dF7 he xs]
theorem eZ7 : erL [] = some [] := rfl
theorem hz7 {v : Value} {cs ds : List T} (h : erL cs = some ds) : erL (.v v :: cs) = some (.v v :: ds) := by simp only [erL, erT, h]
theorem cP7 {α : Type} {m : Bool} {k : Nat} {f g : α → List T} {xs : List α} {cs ds : List T} (he : ∀ x, erL (f x) = some (g x)) (h : erL cs = some ds) : erL (sl m k (xs.map f) :: cs) = some (sl false k (xs.map g) :: ds) := by
 cases m <;> simp only [erL, sl, erT, dF7 he, h, Option.map_some, Nat.mod_mod]
theorem ny7 (x : Int) : erL (be7 x) = some (be7 x) := rfl
theorem xM7 (x : Bool) : erL (bI7 x) = some (bI7 x) := rfl
theorem P87 (x : UInt8) : erL (eU8 x) = some (eU8 x) := rfl
theorem P97 (x : Int) : erL (eB8 x) = some (eB8 x) := rfl
theorem Ia7 (x : Str) : erL (ca7 x) = some (ca7 x) := rfl
theorem xN7 (x : Pt) : erL (ePt x) = some (ePt x) := rfl
theorem p87 (x : Tag) : erL (aX7 x) = some (aX7 x) := rfl
theorem xO7 (x : bg7) : erL (aw7 x) = some (aw7 x) := rfl
theorem Au7 (x : ap7) : erL (aM7 x) = some (aM7 x) := rfl
theorem D17 (x : cv7) : erL (gd7 x) = some (gd7 x) := rfl
theorem Ib7 (x : Val) : erL (H87 x) = some (H87 x) := rfl
theorem Av7 {α : Type} {m : Bool} {k : Nat} {f g : α → List T} (he : ∀ x, erL (f x) = some (g x)) (xs : List α) : erL (eSl m k f xs) = some (eSl false k g xs) := cP7 he eZ7
theorem Aw7 {m : Bool} (x : aR7) : erL (hZ7 m x) = some (hZ7 false x) := hz7 (cP7 xN7 eZ7)
theorem ge7 {m : Bool} (x : Feat) : erL (am7 m x) = some (am7 false x) := hz7 (hz7 (cP7 xN7 (cP7 p87 eZ7)))
theorem ez7 {m : Bool} (x : jG7) : erL (co7 m x) = some (co7 false x) := hz7 (hz7 (hz7 (hz7 (cP7 xN7 (cP7 p87 (hz7 (hz7 (hz7 (cP7 xN7 (cP7 p87 eZ7))))))))))
theorem Ax7 {m : Bool} (x : mG7) : erL (fO7 m x) = some (fO7 false x) := cP7 ny7 (hz7 (cP7 ez7 eZ7))
theorem p97 {m : Bool} (x : Commit) : erL (af7 m x) = some (af7 false x) := cP7 ny7 (cP7 ge7 (hz7 eZ7))
theorem D27 {m : Bool} (x : az7) : erL (j47 m x) = some (j47 false x) := cP7 p97 (cP7 xO7 eZ7)
theorem Ay7 {m : Bool} (x : db7) : erL (p77 m x) = some (p77 false x) := hz7 (ge7 x.f)
theorem xP7 (x : mG7) : erL (hy7 x) = some (fO7 false x) := cP7 ny7 (hz7 (cP7 ez7 eZ7))
theorem v87 (x : Commit) : erL (eY7 x) = some (af7 false x) := cP7 ny7 (cP7 ge7 (hz7 eZ7))
theorem cX7 {α : Type} {j : Nat} {f g : α → List T} (h : ∀ x, pC7 j (f x) = some (g x)) : ∀ xs : List α, dj7 j (xs.map f) = some (xs.map g)
 | [] => rfl
 | x :: xs => by simp only [List.map_cons, dj7, h, cX7 h xs]
theorem xQ7 (xs : List Commit) : dj7 1 (xs.map (af7 true)) = some (xs.map eY7) := cX7 (fun x => by
 simp [pC7, af7, eY7, sl, erT, dF7 ge7]) xs
theorem Az7 (xs : List mG7) : dj7 2 (xs.map (fO7 true)) = some (xs.map hy7) := cX7 (fun x => by
 simp [pC7, fO7, hy7, sl, erT, dF7 ez7]) xs
theorem xR7 (xs : List mG7) : dj7 2 (xs.map hy7) = some (xs.map hy7) := cX7 (fun x => by
 simp [pC7, hy7, sl, erT, dF7 ez7]) xs
theorem xS7 (xs : List jG7) : dj7 16 (xs.map (co7 true)) = some (xs.map (co7 false)) := cX7 (fun x => (if_pos (Nat.le_refl 16)).trans (ez7 x)) xs
theorem D37 (xs : List Feat) : dj7 16 (xs.map (am7 true)) = some (xs.map (am7 false)) := cX7 (fun x => (if_pos (Nat.le_refl 16)).trans (ge7 x)) xs
theorem v97 (xs : List Commit) : dj7 1 (xs.map eY7) = some (xs.map eY7) := cX7 (fun x => by
 simp [pC7, eY7, sl, erT, dF7 ge7]) xs
theorem ow7 : dL7 [] = true := rfl
theorem h07 {r : List T} {rs : List (List T)} (h : eN7 r = true) (h' : dL7 rs = true) : dL7 (r :: rs) = true := by simp only [dL7, h, h', Bool.and_self]
theorem c67 : eN7 [] = true := rfl
theorem g47 {v : Value} {cs : List T} (h : eN7 cs = true) : eN7 (.v v :: cs) = true := by simp only [eN7, Ag7, h, Bool.and_self]
theorem bl7 {α : Type} {f : α → List T} (he : ∀ x, eN7 (f x) = true) : ∀ xs : List α, dL7 (xs.map f) = true
 | [] => rfl
 | x :: xs => h07 (he x) (bl7 he xs)
theorem cQ7 {α : Type} {k : Nat} {f : α → List T} {xs : List α} {cs : List T} (he : ∀ x, eN7 (f x) = true) (h : eN7 cs = true) : eN7 (sl true k (xs.map f) :: cs) = true := by simp only [eN7, sl, Ag7, bl7 he, h, Bool.and_self]
theorem sQ7 {α : Type} {k : Nat} {f : α → List T} {xs : List α} {cs : List T} (he : ∀ x, eN7 (f x) = true) (h : eN7 cs = true) : eN7 (.sl true k (xs.map f) :: cs) = true := cQ7 he h
theorem nz7 (x : Pt) : eN7 (ePt x) = true := rfl
theorem i27 (x : Int) : eN7 (be7 x) = true := rfl
theorem kr7 (x : Bool) : eN7 (bI7 x) = true := rfl
theorem C27 (x : UInt8) : eN7 (eU8 x) = true := rfl
theorem C37 (x : Int) : eN7 (eB8 x) = true := rfl
theorem xT7 (x : Str) : eN7 (ca7 x) = true := rfl
theorem hA7 (x : Tag) : eN7 (aX7 x) = true := rfl
theorem ox7 (x : bg7) : eN7 (aw7 x) = true := rfl
theorem qa7 (x : ap7) : eN7 (aM7 x) = true := rfl
theorem t37 (x : cv7) : eN7 (gd7 x) = true := rfl
theorem xU7 (x : Val) : eN7 (H87 x) = true := rfl
theorem jH7 {α : Type} {k : Nat} {f : α → List T} (he : ∀ x, eN7 (f x) = true) (xs : List α) : eN7 (eSl true k f xs) = true := cQ7 he c67
theorem qb7 (x : aR7) : eN7 (hZ7 true x) = true := g47 (cQ7 nz7 c67)
theorem gx7 (x : Feat) : eN7 (am7 true x) = true := g47 (g47 (cQ7 nz7 (cQ7 hA7 c67)))
theorem i37 (x : jG7) : eN7 (co7 true x) = true := g47 (g47 (g47 (g47 (cQ7 nz7 (cQ7 hA7 (g47 (g47 (g47 (cQ7 nz7 (cQ7 hA7 c67))))))))))
theorem qc7 (x : mG7) : eN7 (fO7 true x) = true := cQ7 i27 (g47 (cQ7 i37 c67))
theorem i47 (x : Commit) : eN7 (af7 true x) = true := cQ7 i27 (cQ7 gx7 (g47 c67))
theorem t47 (x : az7) : eN7 (j47 true x) = true := cQ7 i47 (cQ7 ox7 c67)
theorem qd7 (x : db7) : eN7 (p77 true x) = true := g47 (gx7 x.f)
end Go.Proofs.AM
