/- Lemmas of the proof (Pl), on an abstract machine. Conditions: none. -/
import Derived.Test.YtnnfdbdheoajgaaGreatRow
set_option linter.unusedVariables false
namespace Go.Proofs.AM
def left (n : Int) (w : Nat) : Int := if (w : Int) ≤ n then n - w else -1
def hU7 {α : Type} (w : α → Nat) : List α → Nat
 | [] => 0
 | x :: xs => w x + hU7 w xs
def wL {α : Type} (w : α → Nat) (xs : List α) : Nat := xs.length + hU7 w xs
def w0 {α : Type} (x : α) : Nat := 0
def sK7 (t : Tag) : Nat := t.key.size + (t.val.size + 0)
def he7 (s : aJ7) : Nat := wL w0 s.pts + 0
def aY7 (f : Feat) : Nat := f.id.size + (he7 f.shape + (wL sK7 f.tags + 0))
def ay7 (c : Commit) : Nat := wL w0 c.up + (wL aY7 c.sheet + (c.note.size + 0))
def hK7 (h : Head) : Nat := h.name.size + 0
def bb7 (r : ao7) : Nat := wL ay7 r.commits + (wL hK7 r.heads + 0)
theorem qt7 {α : Type} : ∀ xs : List α, hU7 (w0 (α := α)) xs = 0
 | [] => rfl
 | x :: xs => by simp [hU7, w0, qt7 xs]
section
variable {n : Int} {w : Nat}
theorem aa7 {n : Nat} (h : n ≤ 1048576) : aG7 n = true := decide_eq_true (by omega)
end
theorem by7 {α : Type} {w : α → Nat} : ∀ {xs : List α} {x : α}, x ∈ xs → w x ≤ hU7 w xs
 | y :: ys, x, h => by
  rcases List.mem_cons.1 h with rfl | h
  ·simp [hU7]
  ·have := by7 (w := w) h
   simp only [hU7]
   omega
theorem ag7 {α : Type} {xs : List α} {k : Nat} : idx xs (k : Int) = xs[k]? := by
 unfold idx
 rw [if_pos (by omega)]
 simp
theorem zZ7 (s : Str) : seq s s = true := by simp [seq]
end Go.Proofs.AM
