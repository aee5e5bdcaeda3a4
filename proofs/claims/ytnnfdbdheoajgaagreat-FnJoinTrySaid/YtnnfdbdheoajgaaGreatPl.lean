/- Lemmas of the proof (Pl), on an abstract machine. Conditions: none. -/
import Derived.Test.YtnnfdbdheoajgaaGreatRow
set_option linter.unusedVariables false
namespace Go.Proofs.AM
def left (n : Int) (w : Nat) : Int := if (w : Int) ≤ n then n - w else -1
def ie7 {α : Type} (w : α → Nat) : List α → Nat
 | [] => 0
 | x :: xs => w x + ie7 w xs
def wL {α : Type} (w : α → Nat) (xs : List α) : Nat := xs.length + ie7 w xs
def w0 {α : Type} (x : α) : Nat := 0
def sr7 (t : Tag) : Nat := t.key.size + (t.val.size + 0)
def g77 (s : aD7) : Nat := wL w0 s.pts + 0
def aZ7 (f : Feat) : Nat := f.id.size + (g77 f.shape + (wL sr7 f.tags + 0))
def aX7 (c : Commit) : Nat := wL w0 c.up + (wL aZ7 c.sheet + (c.note.size + 0))
def j67 (h : Head) : Nat := h.name.size + 0
def cj7 (r : aF7) : Nat := wL aX7 r.commits + (wL j67 r.heads + 0)
theorem p87 {α : Type} : ∀ xs : List α, ie7 (w0 (α := α)) xs = 0
 | [] => rfl
 | x :: xs => by simp [ie7, w0, p87 xs]
section
variable {n : Int} {w : Nat}
theorem aa7 {n : Nat} (h : n ≤ 1048576) : aH7 n = true := decide_eq_true (by omega)
end
theorem bR7 {α : Type} {w : α → Nat} : ∀ {xs : List α} {x : α}, x ∈ xs → w x ≤ ie7 w xs
 | y :: ys, x, h => by
  rcases List.mem_cons.1 h with rfl | h
  ·simp [ie7]
  ·have := bR7 (w := w) h
   simp only [ie7]
   omega
theorem ao7 {α : Type} {xs : List α} {k : Nat} : idx xs (k : Int) = xs[k]? := by
 unfold idx
 rw [if_pos (by omega)]
 simp
end Go.Proofs.AM
