/- A part of the proof of 'FnExactPackSizeSaid' (E): lemmas on an abstract machine for the program's functions. Conditions: none. -/
import Derived.Test.YthimhbjbpeheoaaV
set_option linter.unusedVariables false
namespace Go.Proofs.AM
abbrev Str := ByteArray
structure Pt where
  x : Int
  y : Int
  deriving DecidableEq
structure Tag where
  key : Str
  val : Str
  deriving DecidableEq
structure Shape where
  kind : Int
  pts : List Pt
  deriving DecidableEq
structure Feat where
  id : Str
  shape : Shape
  tags : List Tag
  deriving DecidableEq
structure Change where
  id : Str
  had : Bool
  was : Feat
  has : Bool
  now : Feat
  deriving DecidableEq
structure Entry where
  up : List Int
  note : Str
  diff : List Change
  deriving DecidableEq
structure Commit where
  up : List Int
  sheet : List Feat
  note : Str
  deriving DecidableEq
structure Head where
  name : Str
  at_ : Int
  deriving DecidableEq
structure Repo where
  commits : List Commit
  heads : List Head
  deriving DecidableEq
structure Clash where
  id : Str
  what : Str
  deriving DecidableEq
structure Pair where
  a : Int
  b : Int
  deriving DecidableEq
structure Val where
  has : Bool
  val : Str
  deriving DecidableEq
structure Thing where
  has : Bool
  f : Feat
  deriving DecidableEq
structure Rd where
  b : List UInt8
  p : Int
  deriving DecidableEq
abbrev iv (n : Int) : Value := .int .i64 n
def sl (m : Bool) (k : Nat) (rows : Rows) : T := match m with
  | true => .sl true k rows
  | false => .sl false (k % 16) rows
def eInt (n : Int) : List T := [.v (.int .i64 n)]
def eBool (n : Bool) : List T := [.v (.bool n)]
def eU8 (n : UInt8) : List T := [.v (.int .u8 n.toNat)]
def eStr (s : Str) : List T := [.v (.string s)]
def eSl {α : Type} (m : Bool) (k : Nat) (f : α → List T) (xs : List α) : List T := [sl m k (xs.map f)]
def ePt (p : Pt) : List T := [.v (.int .i64 p.x), .v (.int .i64 p.y)]
def eTag (p : Tag) : List T := [.v (.string p.key), .v (.string p.val)]
def eHead (p : Head) : List T := [.v (.string p.name), .v (.int .i64 p.at_)]
def eClash (p : Clash) : List T := [.v (.string p.id), .v (.string p.what)]
def ePair (p : Pair) : List T := [.v (.int .i64 p.a), .v (.int .i64 p.b)]
def eVal (p : Val) : List T := [.v (.bool p.has), .v (.string p.val)]
def eShape (m : Bool) (s : Shape) : List T := [.v (.int .i64 s.kind), sl m 66 (s.pts.map ePt)]
def eFeat (m : Bool) (f : Feat) : List T := [.v (.string f.id), .v (.int .i64 f.shape.kind), sl m 66 (f.shape.pts.map ePt), sl m 82 (f.tags.map eTag)]
def eChange (m : Bool) (c : Change) : List T := [.v (.string c.id), .v (.bool c.had), .v (.string c.was.id), .v (.int .i64 c.was.shape.kind), sl m 66 (c.was.shape.pts.map ePt), sl m 82 (c.was.tags.map eTag), .v (.bool c.has), .v (.string c.now.id), .v (.int .i64 c.now.shape.kind), sl m 66 (c.now.shape.pts.map ePt), sl m 82 (c.now.tags.map eTag)]
def eEntry (m : Bool) (e : Entry) : List T := [sl m 17 (e.up.map eInt), .v (.string e.note), sl m 155 (e.diff.map (eChange m))]
def eCommit (m : Bool) (c : Commit) : List T := [sl m 17 (c.up.map eInt), sl m 100 (c.sheet.map (eFeat m)), .v (.string c.note)]
def eRepo (m : Bool) (r : Repo) : List T := [sl m 115 (r.commits.map (eCommit m)), sl m 130 (r.heads.map eHead)]
def eThing (m : Bool) (p : Thing) : List T := .v (.bool p.has) :: eFeat m p.f
theorem ext_map {α : Type} {f : α → List T} (hf : ∀ a b, f a = f b → a = b) : ∀ {xs ys : List α}, xs.map f = ys.map f → xs = ys
  | [], [], _ => rfl
  | x :: xs, y :: ys, h => by
    simp only [List.map_cons, List.cons.injEq] at h
    rw [hf _ _ h.1, ext_map hf h.2]
  | [], _ :: _, h => by simp at h
  | _ :: _, [], h => by simp at h
theorem sl_inj {m : Bool} {k : Nat} {a b : Rows} (h : sl m k a = sl m k b) : a = b := by cases m <;> simpa [sl] using h
theorem getM {α : Type} {f : α → List T} {xs : List α} {i : Nat} {x : α} (h : xs[i]? = some x) : (xs.map f)[i]? = some (f x) := by rw [List.getElem?_map, h]; rfl
theorem wrap_id {n : Int} (h : -9223372036854775808 ≤ n) (h' : n ≤ 9223372036854775807) : IntKind.i64.wrap n = n := by
  rw [IntKind.wrap_i64]; omega
theorem pin1 {t : Tm} {d : Nat} {x : AV} (h : t d = x) : t = updT t (some d) x := by
  funext i
  simp only [updT]
  split
  · rename_i e; rw [e]; exact h
  · rfl
theorem pinH {o : Heap} {n : Nat} {e : Ent} (h : o n = some e) : o = upd o n (some e) := by
  funext i
  simp only [upd]
  split
  · rename_i e; rw [e]; exact h
  · rfl
theorem erR_map {α : Type} {f g : α → List T} (he : ∀ x, erL (f x) = some (g x)) : ∀ xs : List α, erR (xs.map f) = some (xs.map g)
  | [] => rfl
  | x :: xs => by simp only [List.map_cons, erR, he, erR_map he xs]
theorem erL_nil : erL [] = some [] := rfl
theorem erL_v {v : Value} {cs ds : List T} (h : erL cs = some ds) : erL (.v v :: cs) = some (.v v :: ds) := by simp only [erL, erT, h]
theorem erL_sl {α : Type} {m : Bool} {k : Nat} {f g : α → List T} {xs : List α} {cs ds : List T} (he : ∀ x, erL (f x) = some (g x)) (h : erL cs = some ds) : erL (sl m k (xs.map f) :: cs) = some (sl false k (xs.map g) :: ds) := by
  cases m <;> simp only [erL, sl, erT, erR_map he, h, Option.map_some, Nat.mod_mod]
theorem er_Int (x : Int) : erL (eInt x) = some (eInt x) := rfl
theorem er_Bool (x : Bool) : erL (eBool x) = some (eBool x) := rfl
theorem er_U8 (x : UInt8) : erL (eU8 x) = some (eU8 x) := rfl
theorem er_Str (x : Str) : erL (eStr x) = some (eStr x) := rfl
theorem er_Pt (x : Pt) : erL (ePt x) = some (ePt x) := rfl
theorem er_Tag (x : Tag) : erL (eTag x) = some (eTag x) := rfl
theorem er_Head (x : Head) : erL (eHead x) = some (eHead x) := rfl
theorem er_Clash (x : Clash) : erL (eClash x) = some (eClash x) := rfl
theorem er_Pair (x : Pair) : erL (ePair x) = some (ePair x) := rfl
theorem er_Val (x : Val) : erL (eVal x) = some (eVal x) := rfl
theorem er_Sl {α : Type} {m : Bool} {k : Nat} {f g : α → List T} (he : ∀ x, erL (f x) = some (g x)) (xs : List α) : erL (eSl m k f xs) = some (eSl false k g xs) := erL_sl he erL_nil
theorem er_Shape {m : Bool} (x : Shape) : erL (eShape m x) = some (eShape false x) := erL_v (erL_sl er_Pt erL_nil)
theorem er_Feat {m : Bool} (x : Feat) : erL (eFeat m x) = some (eFeat false x) := erL_v (erL_v (erL_sl er_Pt (erL_sl er_Tag erL_nil)))
theorem er_Change {m : Bool} (x : Change) : erL (eChange m x) = some (eChange false x) := erL_v (erL_v (erL_v (erL_v (erL_sl er_Pt (erL_sl er_Tag (erL_v (erL_v (erL_v (erL_sl er_Pt (erL_sl er_Tag erL_nil))))))))))
theorem er_Entry {m : Bool} (x : Entry) : erL (eEntry m x) = some (eEntry false x) := erL_sl er_Int (erL_v (erL_sl er_Change erL_nil))
theorem er_Commit {m : Bool} (x : Commit) : erL (eCommit m x) = some (eCommit false x) := erL_sl er_Int (erL_sl er_Feat (erL_v erL_nil))
theorem er_Repo {m : Bool} (x : Repo) : erL (eRepo m x) = some (eRepo false x) := erL_sl er_Commit (erL_sl er_Head erL_nil)
theorem er_Thing {m : Bool} (x : Thing) : erL (eThing m x) = some (eThing false x) := erL_v (er_Feat x.f)
theorem own_nilR : ownR [] = true := rfl
theorem own_consR {r : List T} {rs : List (List T)} (h : ownL r = true) (h' : ownR rs = true) : ownR (r :: rs) = true := by simp only [ownR, h, h', Bool.and_self]
theorem own_nilL : ownL [] = true := rfl
theorem own_v {v : Value} {cs : List T} (h : ownL cs = true) : ownL (.v v :: cs) = true := by simp only [ownL, ownT, h, Bool.and_self]
theorem own_map {α : Type} {f : α → List T} (he : ∀ x, ownL (f x) = true) : ∀ xs : List α, ownR (xs.map f) = true
  | [] => rfl
  | x :: xs => own_consR (he x) (own_map he xs)
theorem own_sl {α : Type} {k : Nat} {f : α → List T} {xs : List α} {cs : List T} (he : ∀ x, ownL (f x) = true) (h : ownL cs = true) : ownL (sl true k (xs.map f) :: cs) = true := by simp only [ownL, sl, ownT, own_map he, h, Bool.and_self]
theorem own_sl' {α : Type} {k : Nat} {f : α → List T} {xs : List α} {cs : List T} (he : ∀ x, ownL (f x) = true) (h : ownL cs = true) : ownL (.sl true k (xs.map f) :: cs) = true := own_sl he h
theorem own_Pt (x : Pt) : ownL (ePt x) = true := rfl
theorem own_Int (x : Int) : ownL (eInt x) = true := rfl
theorem own_Bool (x : Bool) : ownL (eBool x) = true := rfl
theorem own_U8 (x : UInt8) : ownL (eU8 x) = true := rfl
theorem own_Str (x : Str) : ownL (eStr x) = true := rfl
theorem own_Tag (x : Tag) : ownL (eTag x) = true := rfl
theorem own_Head (x : Head) : ownL (eHead x) = true := rfl
theorem own_Clash (x : Clash) : ownL (eClash x) = true := rfl
theorem own_Pair (x : Pair) : ownL (ePair x) = true := rfl
theorem own_Val (x : Val) : ownL (eVal x) = true := rfl
theorem own_Sl {α : Type} {k : Nat} {f : α → List T} (he : ∀ x, ownL (f x) = true) (xs : List α) : ownL (eSl true k f xs) = true := own_sl he own_nilL
theorem own_Shape (x : Shape) : ownL (eShape true x) = true := own_v (own_sl own_Pt own_nilL)
theorem own_Feat (x : Feat) : ownL (eFeat true x) = true := own_v (own_v (own_sl own_Pt (own_sl own_Tag own_nilL)))
theorem own_Change (x : Change) : ownL (eChange true x) = true := own_v (own_v (own_v (own_v (own_sl own_Pt (own_sl own_Tag (own_v (own_v (own_v (own_sl own_Pt (own_sl own_Tag own_nilL))))))))))
theorem own_Entry (x : Entry) : ownL (eEntry true x) = true := own_sl own_Int (own_v (own_sl own_Change own_nilL))
theorem own_Commit (x : Commit) : ownL (eCommit true x) = true := own_sl own_Int (own_sl own_Feat (own_v own_nilL))
theorem own_Repo (x : Repo) : ownL (eRepo true x) = true := own_sl own_Commit (own_sl own_Head own_nilL)
theorem own_Thing (x : Thing) : ownL (eThing true x) = true := own_v (own_Feat x.f)
end Go.Proofs.AM
