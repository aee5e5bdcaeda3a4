/- Lemmas of the proof (M), on an abstract machine. Conditions: none. -/
import Derived.Test.YtnnfdbdheoajgaaGreatPl
set_option linter.unusedVariables false
namespace Go.Proofs.AM
def a07 {α : Type} (p : α → Nat → Bool) : List α → Nat → Bool
 | [], _ => true
 | x :: l, k => p x k && a07 p l (k + 1)
theorem iu7 {α : Type} {gl : List α → Nat → Option (Bool ⊕ Unit)} {p : α → Nat → Bool} {xs : List α} (h0 : ∀ k, gl [] k = some (.inr ())) (h1 : ∀ x l k, xs.drop k = x :: l → gl (x :: l) k = if p x k = true then gl l (k + 1) else some (.inl false)) : ∀ (l : List α) (k : Nat), xs.drop k = l → gl l k = some (if a07 p l k = true then .inr () else .inl false)
 | [], k, h => by rw [h0]; rfl
 | x :: l, k, h => by
  rw [h1 x l k h]
  have e : a07 p (x :: l) k = (p x k && a07 p l (k + 1)) := rfl
  rw [e]
  by_cases hp : p x k = true
  ·rw [if_pos hp, iu7 h0 h1 l (k + 1) (iq7 h), hp, Bool.true_and]
  ·rw [if_neg hp]
   rw [Bool.not_eq_true] at hp
   rw [hp]
   simp
theorem cd7 {k : Nat} (h : 0 < k) (h2 : k ≤ 4294967296) : IntKind.i64.wrap ((k : Int) - 1) = ((k - 1 : Nat) : Int) := by
 rw [aN7 (by omega) (by omega)]
 omega
theorem eZ7 {α : Type} {xs l : List α} {x : α} {k : Nat} (h : xs.drop k = x :: l) (hk : 0 < k) : ∃ y, xs[k - 1]? = some y := by
 have := ch7 h
 exact ⟨xs[k - 1], List.getElem?_eq_getElem (by omega)⟩
theorem ptb (x y : Pt) : ((x.x == y.x) && ((x.y == y.y) && true)) = decide (x = y) := by
 obtain ⟨a, b⟩ := x; obtain ⟨c, d⟩ := y
 by_cases h1 : a = c <;> by_cases h2 : b = d <;> simp [h1, h2]
theorem D27 {a b : Nat} : decide ((a : Int) ≤ (b : Int)) = decide (a ≤ b) := decide_eq_decide.2 (by omega)
theorem D37 {k : Nat} : decide ((k : Int) > 0) = decide (0 < k) := decide_eq_decide.2 (by omega)
theorem MG7 {A B : Bool} : ((some (if A = true then (.inr () : Bool ⊕ Unit) else .inl false)).bind fun q => match q with | .inl r => some r | .inr _ => some B) = some (A && B) := by cases A <;> rfl
def lH7 (n : Int) : Bool := decide (-1000 ≤ n) && decide (n ≤ 1000)
def bd7 (s : Str) : Bool := a07 (fun (b : UInt8) _ => decide (97 ≤ b.toNat) && decide (b.toNat ≤ 122)) s.data.toList 0 && (decide (1 ≤ s.size) && decide (s.size ≤ 6))
def D47 (xs : List Pt) : Bool := a07 (fun p k => lH7 p.x && (lH7 p.y && (decide (k = 0) || decide (xs[k - 1]? ≠ some p)))) xs 0
def dt7 (s : aL7) : Bool := D47 s.pts && (decide (s.pts.length ≤ 6) && (if s.kind = 1 then decide (s.pts.length = 1) else if s.kind = 2 then decide (2 ≤ s.pts.length) else if s.kind = 3 then decide (3 ≤ s.pts.length) && decide (s.pts[0]? ≠ s.pts[s.pts.length - 1]?) else false))
theorem nK7 : ∀ a b : List UInt8, (Op.bytesLess a b || (a == b)) = !Op.bytesLess b a
 | [], [] => rfl
 | [], y :: ys => rfl
 | x :: xs, [] => rfl
 | x :: xs, y :: ys => by
  have ih := nK7 xs ys
  simp only [Op.bytesLess]
  by_cases h1 : x < y
  ·have h2 : ¬ y < x := by
    intro h
    have a1 : x.toNat < y.toNat := h1
    have a2 : y.toNat < x.toNat := h
    omega
   have h3 : ¬ y = x := fun e => h2 (by rw [e] at h1; rw [e]; exact h1)
   simp [h1, h2, h3]
  ·by_cases h2 : y < x
   ·have h3 : ¬ x = y := fun e => h1 (by rw [e] at h2; rw [e]; exact h2)
    simp [h1, h2, h3]
   ·have h3 : x = y := by
     have a1 : ¬ x.toNat < y.toNat := h1
     have a2 : ¬ y.toNat < x.toNat := h2
     exact UInt8.toNat_inj.1 (by omega)
    subst h3
    simp [h1]
    simpa using ih
theorem sP7 (a b : Str) : (slt a b || seq a b) = !slt b a := nK7 a.toList b.toList
def ku7 {α : Type} (key : α → Str) (xs : List α) (x : α) (k : Nat) : Bool := match xs[k - 1]? with
 | some y => slt (key y) (key x)
 | none => false
def qE7 (ts : List Tag) : Bool := a07 (fun t k => bd7 t.key && (bd7 t.val && (decide (k = 0) || ku7 Tag.key ts t k))) ts 0
def bM7 (f : Feat) : Bool := bd7 f.id && (dt7 f.shape && (qE7 f.tags && decide (f.tags.length ≤ 4)))
def a87 (fs : List Feat) : Bool := a07 (fun f k => bM7 f && (decide (k = 0) || ku7 Feat.id fs f k)) fs 0 && decide (fs.length ≤ 8)
theorem t97 {α : Type} [DecidableEq α] {gl : List α → List α → Nat → Option (Bool ⊕ Unit)} {ok : α → Prop} (h0 : ∀ a k, gl a [] k = some (.inr ())) (h1 : ∀ a x l k y, ok x → a[k]? = some y → gl a (x :: l) k = if x = y then gl a l (k + 1) else some (.inl false)) : ∀ (l p m : List α), (∀ x ∈ l, ok x) → l.length = m.length → gl (p ++ m) l p.length = some (if l = m then .inr () else .inl false)
 | [], p, [], hx, hl => by rw [h0]; simp
 | [], p, y :: m, hx, hl => by cases hl
 | x :: l, p, [], hx, hl => by cases hl
 | x :: l, p, y :: m, hx, hl => by
  rw [h1 (p ++ y :: m) x l p.length y (hx x (by simp)) (by simp)]
  by_cases e : x = y
  ·subst e
   have := t97 h0 h1 l (p ++ [x]) m (fun z hz => hx z (by simp [hz])) (by simpa using hl)
   rw [if_pos rfl]
   have e2 : p ++ x :: m = p ++ [x] ++ m := by simp
   have e3 : p.length + 1 = (p ++ [x]).length := by simp
   rw [e2, e3, this]
   simp
  ·rw [if_neg e, if_neg (fun h => e (List.cons.inj h).1)]
theorem cN7 {α : Type} [DecidableEq α] {gl : List α → List α → Nat → Option (Bool ⊕ Unit)} {f : List α → List α → Option Bool} {ok : α → Prop} (h0 : ∀ a k, gl a [] k = some (.inr ())) (h1 : ∀ a x l k y, ok x → a[k]? = some y → gl a (x :: l) k = if x = y then gl a l (k + 1) else some (.inl false))
  (hf : ∀ a b, f a b = if ((a.length : Int) != (b.length : Int)) = true then some false else (if aH7 a.length = true then ((gl b a 0).bind fun q => match q with | .inl r => some r | .inr _ => some true) else none)) {xs ys : List α} (hl : xs.length ≤ 1048576) (hx : ∀ x ∈ xs, ok x) : f xs ys = some (decide (xs = ys)) := by
 rw [hf]
 by_cases e : xs.length = ys.length
 ·rw [if_neg (by simp [e]), if_pos (aa7 hl)]
  have := t97 h0 h1 xs [] ys hx e
  simp only [List.nil_append, List.length_nil] at this
  rw [this]
  by_cases e2 : xs = ys <;> simp [e2]
 ·rw [if_pos (by simp; omega)]
  have : ¬ xs = ys := fun h => e (by rw [h])
  simp [this]
theorem Ho7 (a b : Str) : (a == b) = decide (a = b) := by
 obtain ⟨⟨x⟩⟩ := a
 obtain ⟨⟨y⟩⟩ := b
 show ((⟨x⟩ : Array UInt8) == ⟨y⟩) = _
 by_cases h : x = y
 ·subst h
  simp
 ·have : ¬ (⟨⟨x⟩⟩ : ByteArray) = ⟨⟨y⟩⟩ := fun e => h (by injection e with e; injection e)
  simp [this, h]
theorem QW7 (x y : Tag) : ((x.key == y.key) && ((x.val == y.val) && true)) = decide (x = y) := by
 obtain ⟨a, b⟩ := x; obtain ⟨c, d⟩ := y
 simp only [Ho7]
 by_cases h1 : a = c <;> by_cases h2 : b = d <;> simp [h1, h2]
theorem bT7 (a b : Str) : seq a b = decide (a = b) := by
 unfold seq
 rw [← beq_toListBytes]
 exact Ho7 a b
def aM7 {α : Type} (p : α → Bool) : List α → Nat → Int
 | [], _ => -1
 | x :: l, k => if p x = true then (k : Int) else aM7 p l (k + 1)
theorem mX7 {α : Type} {gl : List α → Nat → Option (Int ⊕ Unit)} {p : α → Bool} {ok : α → Prop} (h0 : ∀ k, gl [] k = some (.inr ())) (h1 : ∀ x l k, ok x → gl (x :: l) k = if p x = true then some (.inl (k : Int)) else gl l (k + 1)) : ∀ (l : List α) (k : Nat), (∀ x ∈ l, ok x) → ((gl l k).bind fun q => match q with | .inl r => some r | .inr _ => some (-1)) = some (aM7 p l k)
 | [], k, h => by rw [h0]; rfl
 | x :: l, k, h => by
  rw [h1 x l k (h x (by simp))]
  have e : aM7 p (x :: l) k = if p x = true then (k : Int) else aM7 p l (k + 1) := rfl
  rw [e]
  by_cases hp : p x = true
  ·rw [if_pos hp, if_pos hp]
   rfl
  ·rw [if_neg hp, if_neg hp]
   exact mX7 h0 h1 l (k + 1) fun y hy => h y (by simp [hy])
def cl7 (cs : List Commit) (c : Commit) : Int := aM7 (fun x => decide (x = c)) cs 0
def be7 (hs : List Head) (n : Str) : Int := aM7 (fun x => decide (x.name = n)) hs 0
def mUp (up : List Int) (k : Nat) : Bool := a07 (fun (x : Int) _ => decide (0 ≤ x) && decide (x < (k : Int))) up 0 && (decide (up.length ≤ 2) && ((decide (0 < up.length) == decide (0 < k)) && decide (up[0]? = none ∨ up[0]? ≠ up[1]?)))
def cO7 (cs : List Commit) : Bool := a07 (fun c k => mUp c.up k && (a87 c.sheet && (bd7 c.note && decide (cl7 cs c = (k : Int))))) cs 0
def nL7 (n : Nat) (hs : List Head) : Bool := a07 (fun h k => bd7 h.name && (decide (be7 hs h.name = (k : Int)) && (decide (0 ≤ h.at_) && decide (h.at_ < (n : Int))))) hs 0
def bk7 (r : am7) : Bool := decide (1 ≤ r.commits.length) && (decide (r.commits.length ≤ 14) && (decide (1 ≤ r.heads.length) && (decide (r.heads.length ≤ 4) && (cO7 r.commits && nL7 r.commits.length r.heads))))
end Go.Proofs.AM
