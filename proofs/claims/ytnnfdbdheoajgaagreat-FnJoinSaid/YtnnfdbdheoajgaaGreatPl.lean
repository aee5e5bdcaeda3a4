/- Lemmas of the proof (Pl), on an abstract machine. Conditions: none. -/
import Derived.Test.YtnnfdbdheoajgaaGreatRow
set_option linter.unusedVariables false
namespace Go.Proofs.AM
def left (n : Int) (w : Nat) : Int := if (w : Int) ≤ n then n - w else -1
def h37 {α : Type} (w : α → Nat) : List α → Nat
 | [] => 0
 | x :: xs => w x + h37 w xs
def wL {α : Type} (w : α → Nat) (xs : List α) : Nat := xs.length + h37 w xs
def w0 {α : Type} (x : α) : Nat := 0
def sO7 (t : Tag) : Nat := t.key.size + (t.val.size + 0)
def hk7 (s : aL7) : Nat := wL w0 s.pts + 0
def aZ7 (f : Feat) : Nat := f.id.size + (hk7 f.shape + (wL sO7 f.tags + 0))
def aA7 (c : Commit) : Nat := wL w0 c.up + (wL aZ7 c.sheet + (c.note.size + 0))
def hS7 (h : Head) : Nat := h.name.size + 0
def ba7 (r : am7) : Nat := wL aA7 r.commits + (wL hS7 r.heads + 0)
theorem qB7 {α : Type} : ∀ xs : List α, h37 (w0 (α := α)) xs = 0
 | [] => rfl
 | x :: xs => by simp [h37, w0, qB7 xs]
section
variable {n : Int} {w : Nat}
theorem aa7 {n : Nat} (h : n ≤ 1048576) : aH7 n = true := decide_eq_true (by omega)
end
theorem bA7 {α : Type} {w : α → Nat} : ∀ {xs : List α} {x : α}, x ∈ xs → w x ≤ h37 w xs
 | y :: ys, x, h => by
  rcases List.mem_cons.1 h with rfl | h
  ·simp [h37]
  ·have := bA7 (w := w) h
   simp only [h37]
   omega
theorem ag7 {α : Type} {xs : List α} {k : Nat} : idx xs (k : Int) = xs[k]? := by
 unfold idx
 rw [if_pos (by omega)]
 simp
end Go.Proofs.AM
