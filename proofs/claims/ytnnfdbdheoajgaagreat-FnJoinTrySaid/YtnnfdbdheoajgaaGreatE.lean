/- Lemmas of the proof (E), on an abstract machine. Conditions: none. -/
import Derived.Test.YtnnfdbdheoajgaaGreatV
set_option linter.unusedVariables false
namespace Go.Proofs.AM
abbrev Str := ByteArray
structure Pt where
 x : Int
 y : Int
 deriving DecidableEq
structure Tag where
 key : Str
 val : Str
 deriving DecidableEq
structure aD7 where
 kind : Int
 pts : List Pt
 deriving DecidableEq
structure Feat where
 id : Str
 shape : aD7
 tags : List Tag
 deriving DecidableEq
structure jM7 where
 id : Str
 had : Bool
 was : Feat
 has : Bool
 now : Feat
 deriving DecidableEq
structure mo7 where
 up : List Int
 note : Str
 diff : List jM7
 deriving DecidableEq
structure Commit where
 up : List Int
 sheet : List Feat
 note : Str
 deriving DecidableEq
structure Head where
 name : Str
 at_ : Int
 deriving DecidableEq
structure aF7 where
 commits : List Commit
 heads : List Head
 deriving DecidableEq
structure aL7 where
 id : Str
 what : Str
 deriving DecidableEq
structure cI7 where
 a : Int
 b : Int
 deriving DecidableEq
structure Val where
 has : Bool
 val : Str
 deriving DecidableEq
structure dh7 where
 has : Bool
 f : Feat
 deriving DecidableEq
structure Rd where
 b : List UInt8
 p : Int
 deriving DecidableEq
def sl (m : Bool) (k : Nat) (rows : Rows) : T := match m with
 | true => .sl true k rows
 | false => .sl false (k % 16) rows
def bz7 (n : Int) : List T := [.v (.int .i64 n)]
def bI7 (n : Bool) : List T := [.v (.bool n)]
def eU8 (n : UInt8) : List T := [.v (.int .u8 n.toNat)]
def eB8 (n : Int) : List T := [.v (.int .u8 n)]
def eSl {α : Type} (m : Bool) (k : Nat) (f : α → List T) (xs : List α) : List T := [sl m k (xs.map f)]
def ePt (p : Pt) : List T := [.v (.int .i64 p.x), .v (.int .i64 p.y)]
def bb7 (p : Tag) : List T := [.v (.string p.key), .v (.string p.val)]
def aW7 (p : Head) : List T := [.v (.string p.name), .v (.int .i64 p.at_)]
def bh7 (p : aL7) : List T := [.v (.string p.id), .v (.string p.what)]
def fb7 (p : cI7) : List T := [.v (.int .i64 p.a), .v (.int .i64 p.b)]
def F47 (p : Val) : List T := [.v (.bool p.has), .v (.string p.val)]
def g67 (m : Bool) (s : aD7) : List T := [.v (.int .i64 s.kind), sl m 66 (s.pts.map ePt)]
def aj7 (m : Bool) (f : Feat) : List T := [.v (.string f.id), .v (.int .i64 f.shape.kind), sl m 66 (f.shape.pts.map ePt), sl m 82 (f.tags.map bb7)]
def cC7 (m : Bool) (c : jM7) : List T := [.v (.string c.id), .v (.bool c.had), .v (.string c.was.id), .v (.int .i64 c.was.shape.kind), sl m 66 (c.was.shape.pts.map ePt), sl m 82 (c.was.tags.map bb7), .v (.bool c.has), .v (.string c.now.id), .v (.int .i64 c.now.shape.kind), sl m 66 (c.now.shape.pts.map ePt), sl m 82 (c.now.tags.map bb7)]
def fT7 (m : Bool) (e : mo7) : List T := [sl m 17 (e.up.map bz7), .v (.string e.note), sl m 155 (e.diff.map (cC7 m))]
def hv7 (e : mo7) : List T := [sl true 17 (e.up.map bz7), .v (.string e.note), sl false 155 (e.diff.map (cC7 false))]
def am7 (m : Bool) (c : Commit) : List T := [sl m 17 (c.up.map bz7), sl m 100 (c.sheet.map (aj7 m)), .v (.string c.note)]
def od7 (m : Bool) (r : aF7) : List T := [sl m 115 (r.commits.map (am7 m)), sl m 130 (r.heads.map aW7)]
def bg7 (c : Commit) : List T := [sl true 17 (c.up.map bz7), sl false 100 (c.sheet.map (aj7 false)), .v (.string c.note)]
def tt7 (r : aF7) : List T := [sl true 115 (r.commits.map bg7), sl true 130 (r.heads.map aW7)]
def pJ7 (m : Bool) (p : dh7) : List T := .v (.bool p.has) :: aj7 m p.f
theorem wR7 {α : Type} {f : α → List T} (hf : ∀ a b, f a = f b → a = b) : ∀ {xs ys : List α}, xs.map f = ys.map f → xs = ys
 | [], [], _ => rfl
 | x :: xs, y :: ys, h => by
  simp only [List.map_cons, List.cons.injEq] at h
  rw [hf _ _ h.1, wR7 hf h.2]
 | [], _ :: _, h => by simp at h
 | _ :: _, [], h => by simp at h
theorem F57 {m : Bool} {k : Nat} {a b : Rows} (h : sl m k a = sl m k b) : a = b := by cases m <;> simpa [sl] using h
theorem P57 {α : Type} {f : α → List T} {xs : List α} {i : Nat} {x : α} (h : xs[i]? = some x) : (xs.map f)[i]? = some (f x) := by rw [List.getElem?_map, h]; rfl
theorem aM7 {n : Int} (h : -9223372036854775808 ≤ n) (h' : n ≤ 9223372036854775807) : IntKind.i64.wrap n = n := by
 rw [IntKind.wrap_i64]; omega
theorem QC7 {t : Tm} {d : Nat} {x : AV} (h : t d = x) : t = aA7 t (some d) x := by
 funext i
 simp only [aA7]
 split
 ·rename_i e; rw [e]; exact h
 ·rfl
theorem QD7 {o : ah7} {n : Nat} {e : Ent} (h : o n = some e) : o = upd o n (some e) := by
 funext i
 simp only [upd]
 split
 ·rename_i e; rw [e]; exact h
 ·rfl
theorem dR7 {α : Type} {f g : α → List T} (he : ∀ x, erL (f x) = some (g x)) : ∀ xs : List α, erR (xs.map f) = some (xs.map g)
 | [] => rfl
 | x :: xs => by simp only [List.map_cons, erR, he, dR7 he xs]
theorem fc7 : erL [] = some [] := rfl
theorem hw7 {v : Value} {cs ds : List T} (h : erL cs = some ds) : erL (.v v :: cs) = some (.v v :: ds) := by simp only [erL, erT, h]
theorem cV7 {α : Type} {m : Bool} {k : Nat} {f g : α → List T} {xs : List α} {cs ds : List T} (he : ∀ x, erL (f x) = some (g x)) (h : erL cs = some ds) : erL (sl m k (xs.map f) :: cs) = some (sl false k (xs.map g) :: ds) := by
 cases m <;> simp only [erL, sl, erT, dR7 he, h, Option.map_some, Nat.mod_mod]
theorem nb7 (x : Int) : erL (bz7 x) = some (bz7 x) := rfl
theorem wS7 (x : Bool) : erL (bI7 x) = some (bI7 x) := rfl
theorem MR7 (x : UInt8) : erL (eU8 x) = some (eU8 x) := rfl
theorem MS7 (x : Int) : erL (eB8 x) = some (eB8 x) := rfl
theorem F67 (x : Str) : erL (cv7 x) = some (cv7 x) := rfl
theorem vi7 (x : Pt) : erL (ePt x) = some (ePt x) := rfl
theorem pK7 (x : Tag) : erL (bb7 x) = some (bb7 x) := rfl
theorem wT7 (x : Head) : erL (aW7 x) = some (aW7 x) := rfl
theorem zr7 (x : aL7) : erL (bh7 x) = some (bh7 x) := rfl
theorem CE7 (x : cI7) : erL (fb7 x) = some (fb7 x) := rfl
theorem F77 (x : Val) : erL (F47 x) = some (F47 x) := rfl
theorem zs7 {α : Type} {m : Bool} {k : Nat} {f g : α → List T} (he : ∀ x, erL (f x) = some (g x)) (xs : List α) : erL (eSl m k f xs) = some (eSl false k g xs) := cV7 he fc7
theorem zt7 {m : Bool} (x : aD7) : erL (g67 m x) = some (g67 false x) := hw7 (cV7 vi7 fc7)
theorem gj7 {m : Bool} (x : Feat) : erL (aj7 m x) = some (aj7 false x) := hw7 (hw7 (cV7 vi7 (cV7 pK7 fc7)))
theorem eM7 {m : Bool} (x : jM7) : erL (cC7 m x) = some (cC7 false x) := hw7 (hw7 (hw7 (hw7 (cV7 vi7 (cV7 pK7 (hw7 (hw7 (hw7 (cV7 vi7 (cV7 pK7 fc7))))))))))
theorem zu7 {m : Bool} (x : mo7) : erL (fT7 m x) = some (fT7 false x) := cV7 nb7 (hw7 (cV7 eM7 fc7))
theorem pL7 {m : Bool} (x : Commit) : erL (am7 m x) = some (am7 false x) := cV7 nb7 (cV7 gj7 (hw7 fc7))
theorem CF7 {m : Bool} (x : aF7) : erL (od7 m x) = some (od7 false x) := cV7 pL7 (cV7 wT7 fc7)
theorem zv7 {m : Bool} (x : dh7) : erL (pJ7 m x) = some (pJ7 false x) := hw7 (gj7 x.f)
theorem wU7 (x : mo7) : erL (hv7 x) = some (fT7 false x) := cV7 nb7 (hw7 (cV7 eM7 fc7))
theorem vj7 (x : Commit) : erL (bg7 x) = some (am7 false x) := cV7 nb7 (cV7 gj7 (hw7 fc7))
theorem c67 {α : Type} {j : Nat} {f g : α → List T} (h : ∀ x, pe7 j (f x) = some (g x)) : ∀ xs : List α, dr7 j (xs.map f) = some (xs.map g)
 | [] => rfl
 | x :: xs => by simp only [List.map_cons, dr7, h, c67 h xs]
theorem ld7 (xs : List Commit) : dr7 1 (xs.map (am7 true)) = some (xs.map bg7) := c67 (fun x => by
 simp [pe7, am7, bg7, sl, erT, dR7 gj7]) xs
theorem zw7 (xs : List mo7) : dr7 2 (xs.map (fT7 true)) = some (xs.map hv7) := c67 (fun x => by
 simp [pe7, fT7, hv7, sl, erT, dR7 eM7]) xs
theorem wV7 (xs : List mo7) : dr7 2 (xs.map hv7) = some (xs.map hv7) := c67 (fun x => by
 simp [pe7, hv7, sl, erT, dR7 eM7]) xs
theorem wW7 (xs : List jM7) : dr7 16 (xs.map (cC7 true)) = some (xs.map (cC7 false)) := c67 (fun x => (if_pos (Nat.le_refl 16)).trans (eM7 x)) xs
theorem CG7 (xs : List Feat) : dr7 16 (xs.map (aj7 true)) = some (xs.map (aj7 false)) := c67 (fun x => (if_pos (Nat.le_refl 16)).trans (gj7 x)) xs
theorem nc7 (xs : List Commit) : dr7 1 (xs.map bg7) = some (xs.map bg7) := c67 (fun x => by
 simp [pe7, bg7, sl, erT, dR7 gj7]) xs
theorem oe7 : dW7 [] = true := rfl
theorem hZ7 {r : List T} {rs : List (List T)} (h : e07 r = true) (h' : dW7 rs = true) : dW7 (r :: rs) = true := by simp only [dW7, h, h', Bool.and_self]
theorem db7 : e07 [] = true := rfl
theorem gZ7 {v : Value} {cs : List T} (h : e07 cs = true) : e07 (.v v :: cs) = true := by simp only [e07, ze7, h, Bool.and_self]
theorem bq7 {α : Type} {f : α → List T} (he : ∀ x, e07 (f x) = true) : ∀ xs : List α, dW7 (xs.map f) = true
 | [] => rfl
 | x :: xs => hZ7 (he x) (bq7 he xs)
theorem cW7 {α : Type} {k : Nat} {f : α → List T} {xs : List α} {cs : List T} (he : ∀ x, e07 (f x) = true) (h : e07 cs = true) : e07 (sl true k (xs.map f) :: cs) = true := by simp only [e07, sl, ze7, bq7 he, h, Bool.and_self]
theorem si7 {α : Type} {k : Nat} {f : α → List T} {xs : List α} {cs : List T} (he : ∀ x, e07 (f x) = true) (h : e07 cs = true) : e07 (.sl true k (xs.map f) :: cs) = true := cW7 he h
theorem nd7 (x : Pt) : e07 (ePt x) = true := rfl
theorem i97 (x : Int) : e07 (bz7 x) = true := rfl
theorem kl7 (x : Bool) : e07 (bI7 x) = true := rfl
theorem BA7 (x : UInt8) : e07 (eU8 x) = true := rfl
theorem BB7 (x : Int) : e07 (eB8 x) = true := rfl
theorem wX7 (x : Str) : e07 (cv7 x) = true := rfl
theorem hx7 (x : Tag) : e07 (bb7 x) = true := rfl
theorem of7 (x : Head) : e07 (aW7 x) = true := rfl
theorem pM7 (x : aL7) : e07 (bh7 x) = true := rfl
theorem tu7 (x : cI7) : e07 (fb7 x) = true := rfl
theorem wY7 (x : Val) : e07 (F47 x) = true := rfl
theorem jN7 {α : Type} {k : Nat} {f : α → List T} (he : ∀ x, e07 (f x) = true) (xs : List α) : e07 (eSl true k f xs) = true := cW7 he db7
theorem pN7 (x : aD7) : e07 (g67 true x) = true := gZ7 (cW7 nd7 db7)
theorem gO7 (x : Feat) : e07 (aj7 true x) = true := gZ7 (gZ7 (cW7 nd7 (cW7 hx7 db7)))
theorem ja7 (x : jM7) : e07 (cC7 true x) = true := gZ7 (gZ7 (gZ7 (gZ7 (cW7 nd7 (cW7 hx7 (gZ7 (gZ7 (gZ7 (cW7 nd7 (cW7 hx7 db7))))))))))
theorem pO7 (x : mo7) : e07 (fT7 true x) = true := cW7 i97 (gZ7 (cW7 ja7 db7))
theorem jb7 (x : Commit) : e07 (am7 true x) = true := cW7 i97 (cW7 gO7 (gZ7 db7))
theorem tv7 (x : aF7) : e07 (od7 true x) = true := cW7 jb7 (cW7 of7 db7)
theorem pP7 (x : dh7) : e07 (pJ7 true x) = true := gZ7 (gO7 x.f)
end Go.Proofs.AM
