/- Lemmas of the proof (Pl), on an abstract machine. Conditions: none. -/
import Derived.Test.YtodmjmkakgamlabGreatDoorRow
set_option linter.unusedVariables false
namespace Go.Proofs.AM
def left (n : Int) (w : Nat) : Int := if (w : Int) ≤ n then n - w else -1
def sumW {α : Type} (w : α → Nat) : List α → Nat
 | [] => 0
 | x :: xs => w x + sumW w xs
def wL {α : Type} (w : α → Nat) (xs : List α) : Nat := xs.length + sumW w xs
def w0 {α : Type} (x : α) : Nat := 0
def wTag (t : Tag) : Nat := t.key.size + (t.val.size + 0)
def wShape (s : Shape) : Nat := wL w0 s.pts + 0
def wFeat (f : Feat) : Nat := f.id.size + (wShape f.shape + (wL wTag f.tags + 0))
def wChange (c : Change) : Nat := c.id.size + (wFeat c.was + (wFeat c.now + 0))
def wEntry (e : Entry) : Nat := wL w0 e.up + (e.note.size + (wL wChange e.diff + 0))
def wCommit (c : Commit) : Nat := wL w0 c.up + (wL wFeat c.sheet + (c.note.size + 0))
def wHead (h : Head) : Nat := h.name.size + 0
def wRepo (r : Repo) : Nat := wL wCommit r.commits + (wL wHead r.heads + 0)
theorem sum_w0 {α : Type} : ∀ xs : List α, sumW (w0 (α := α)) xs = 0
 | [] => rfl
 | x :: xs => by simp [sumW, w0, sum_w0 xs]
section
variable {n : Int} {w : Nat}
theorem fits_small {n : Nat} (h : n ≤ 1048576) : fits n = true := decide_eq_true (by omega)
theorem fits_mid {n : Nat} (h : n ≤ 4194304) : fits n = true := decide_eq_true (by omega)
end
theorem sum_mem {α : Type} {w : α → Nat} : ∀ {xs : List α} {x : α}, x ∈ xs → w x ≤ sumW w xs
 | y :: ys, x, h => by
  rcases List.mem_cons.1 h with rfl | h
  ·simp [sumW]
  ·have := sum_mem (w := w) h
   simp only [sumW]
   omega
theorem idx_nat {α : Type} {xs : List α} {k : Nat} : idx xs (k : Int) = xs[k]? := by
 unfold idx
 rw [if_pos (by omega)]
 simp
theorem seq_self (s : Str) : seq s s = true := by simp [seq]
end Go.Proofs.AM
