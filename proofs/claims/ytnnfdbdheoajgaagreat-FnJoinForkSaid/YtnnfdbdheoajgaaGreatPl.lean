/- Lemmas of the proof (Pl), on an abstract machine. Conditions: none. -/
import Derived.Test.YtnnfdbdheoajgaaGreatRow
set_option linter.unusedVariables false
namespace Go.Proofs.AM
def left (n : Int) (w : Nat) : Int := if (w : Int) ≤ n then n - w else -1
def gk7 {α : Type} (w : α → Nat) : List α → Nat
 | [] => 0
 | x :: xs => w x + gk7 w xs
def wL {α : Type} (w : α → Nat) (xs : List α) : Nat := xs.length + gk7 w xs
def w0 {α : Type} (x : α) : Nat := 0
def wS (s : Str) : Nat := s.size
def u07 (t : Tag) : Nat := t.key.size + (t.val.size + 0)
def im7 (s : aS7) : Nat := wL w0 s.pts + 0
def aU7 (f : Feat) : Nat := f.id.size + (im7 f.shape + (wL u07 f.tags + 0))
def ax7 (c : Commit) : Nat := wL w0 c.up + (wL aU7 c.sheet + (c.note.size + 0))
def gl7 (h : Head) : Nat := h.name.size + 0
def be7 (r : an7) : Nat := wL ax7 r.commits + (wL gl7 r.heads + 0)
theorem tw7 {α : Type} : ∀ xs : List α, gk7 (w0 (α := α)) xs = 0
 | [] => rfl
 | x :: xs => by simp [gk7, w0, tw7 xs]
section
variable {n : Int} {w : Nat}
theorem ab7 {n : Nat} (h : n ≤ 1048576) : aI7 n = true := decide_eq_true (by omega)
end
theorem bA7 {α : Type} {w : α → Nat} : ∀ {xs : List α} {x : α}, x ∈ xs → w x ≤ gk7 w xs
 | y :: ys, x, h => by
  rcases List.mem_cons.1 h with rfl | h
  ·simp [gk7]
  ·have := bA7 (w := w) h
   simp only [gk7]
   omega
theorem al7 {α : Type} {xs : List α} {k : Nat} : idx xs (k : Int) = xs[k]? := by
 unfold idx
 rw [if_pos (by omega)]
 simp
end Go.Proofs.AM
