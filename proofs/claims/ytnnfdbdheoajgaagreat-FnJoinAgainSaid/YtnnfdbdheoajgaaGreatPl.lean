/- Lemmas of the proof (Pl), on an abstract machine. Conditions: none. -/
import Derived.Test.YtnnfdbdheoajgaaGreatRow
set_option linter.unusedVariables false
namespace Go.Proofs.AM
def left (n : Int) (w : Nat) : Int := if (w : Int) ≤ n then n - w else -1
def hR7 {α : Type} (w : α → Nat) : List α → Nat
 | [] => 0
 | x :: xs => w x + hR7 w xs
def wL {α : Type} (w : α → Nat) (xs : List α) : Nat := xs.length + hR7 w xs
def w0 {α : Type} (x : α) : Nat := 0
def sF7 (t : Tag) : Nat := t.key.size + (t.val.size + 0)
def hd7 (s : aJ7) : Nat := wL w0 s.pts + 0
def aY7 (f : Feat) : Nat := f.id.size + (hd7 f.shape + (wL sF7 f.tags + 0))
def ay7 (c : Commit) : Nat := wL w0 c.up + (wL aY7 c.sheet + (c.note.size + 0))
def hJ7 (h : Head) : Nat := h.name.size + 0
def a97 (r : am7) : Nat := wL ay7 r.commits + (wL hJ7 r.heads + 0)
theorem qq7 {α : Type} : ∀ xs : List α, hR7 (w0 (α := α)) xs = 0
 | [] => rfl
 | x :: xs => by simp [hR7, w0, qq7 xs]
section
variable {n : Int} {w : Nat}
theorem aa7 {n : Nat} (h : n ≤ 1048576) : aG7 n = true := decide_eq_true (by omega)
end
theorem by7 {α : Type} {w : α → Nat} : ∀ {xs : List α} {x : α}, x ∈ xs → w x ≤ hR7 w xs
 | y :: ys, x, h => by
  rcases List.mem_cons.1 h with rfl | h
  ·simp [hR7]
  ·have := by7 (w := w) h
   simp only [hR7]
   omega
theorem ai7 {α : Type} {xs : List α} {k : Nat} : idx xs (k : Int) = xs[k]? := by
 unfold idx
 rw [if_pos (by omega)]
 simp
end Go.Proofs.AM
