/- A part of the proof of 'FnExactPackSizeSaid' (Pl): lemmas on an abstract machine for the program's functions. Conditions: none. -/
import Derived.Test.YthimhbjbpeheoaaRow
set_option linter.unusedVariables false
namespace Go.Proofs.AM
def big : Int := 1048576
def left (n : Int) (w : Nat) : Int := if (w : Int) ≤ n then n - w else -1
def Sz {α : Type} (g : α → Int → Option Int) (ok : α → Prop) (w : α → Nat) : Prop := ∀ x n, ok x → 0 ≤ n → n ≤ 1048576 → g x n = some (left n (w x))
def Cp {α : Type} (g : α → Option α) (w : α → Nat) : Prop := ∀ x, w x ≤ 1048576 → g x = some x
def Eqs {α : Type} (g : α → α → Option Bool) (w : α → Nat) : Prop := ∀ x, w x ≤ 1048576 → g x x = some true
def sumW {α : Type} (w : α → Nat) : List α → Nat
  | [] => 0
  | x :: xs => w x + sumW w xs
def wL {α : Type} (w : α → Nat) (xs : List α) : Nat := xs.length + sumW w xs
def w0 {α : Type} (x : α) : Nat := 0
def wS (s : Str) : Nat := s.size
def wTag (t : Tag) : Nat := t.key.size + (t.val.size + 0)
def wShape (s : Shape) : Nat := wL w0 s.pts + 0
def wFeat (f : Feat) : Nat := f.id.size + (wShape f.shape + (wL wTag f.tags + 0))
def wChange (c : Change) : Nat := c.id.size + (wFeat c.was + (wFeat c.now + 0))
def wEntry (e : Entry) : Nat := wL w0 e.up + (e.note.size + (wL wChange e.diff + 0))
def wCommit (c : Commit) : Nat := wL w0 c.up + (wL wFeat c.sheet + (c.note.size + 0))
def wHead (h : Head) : Nat := h.name.size + 0
def wRepo (r : Repo) : Nat := wL wCommit r.commits + (wL wHead r.heads + 0)
theorem sum_w0 {α : Type} : ∀ xs : List α, sumW (w0 (α := α)) xs = 0
  | [] => rfl
  | x :: xs => by simp [sumW, w0, sum_w0 xs]
theorem maxLen_le : (maxLen : Int) ≤ 9223372036854775807 := by decide
theorem left_neg {n : Int} {w : Nat} (h : ¬ (w : Int) ≤ n) : left n w = -1 := if_neg h
theorem left_pos {n : Int} {w : Nat} (h : (w : Int) ≤ n) : left n w = n - w := if_pos h
section
variable {n : Int} {w : Nat}
theorem sz_nat {s : Nat} {K : Option Int} (hs : s ≤ maxLen) (h0 : 0 ≤ n) (hn : n ≤ 1048576) (hK : ∀ m, IntKind.i64.wrap (n - (s : Int)) = m → 0 ≤ m → m ≤ 1048576 → K = some (left m w)) : (if (decide (IntKind.i64.wrap (n - (s : Int)) < 0)) = true then some (-1) else K) = some (left n (s + w)) := by
  have hm := maxLen_le
  have e : IntKind.i64.wrap (n - (s : Int)) = n - s := wrap_id (by omega) (by omega)
  have k := hK (n - s) e
  rw [e]
  by_cases h : (s : Int) ≤ n
  · rw [if_neg (by simp; omega), k (by omega) (by omega)]
    congr 1
    unfold left
    by_cases h2 : ((s + w : Nat) : Int) ≤ n
    · rw [if_pos h2, if_pos (by omega)]
      omega
    · rw [if_neg h2, if_neg (by omega)]
  · rw [if_pos (by simp; omega), left_neg (by omega)]
theorem sz_str {s : Str} {K : Option Int} (hs : okS s) (h0 : 0 ≤ n) (hn : n ≤ 1048576) (hK : ∀ m, IntKind.i64.wrap (n - (s.size : Int)) = m → 0 ≤ m → m ≤ 1048576 → K = some (left m w)) : (if (decide (IntKind.i64.wrap (n - (s.size : Int)) < 0)) = true then some (-1) else K) = some (left n (s.size + w)) := sz_nat hs h0 hn hK
theorem sz_sub {α : Type} {g : α → Int → Option Int} {ok : α → Prop} {wg : α → Nat} (hg : Sz g ok wg) {x : α} (hx : ok x) {K : Int → Option Int} (h0 : 0 ≤ n) (hn : n ≤ 1048576) (hK : ∀ m, 0 ≤ m → m ≤ 1048576 → K m = some (left m w)) : ((g x n).bind fun y => if (decide (y < 0)) = true then some (-1) else K y) = some (left n (wg x + w)) := by
  rw [hg x n hx h0 hn]
  simp only [Option.bind_some]
  by_cases h : (wg x : Int) ≤ n
  · rw [left_pos h, if_neg (by simp; omega), hK _ (by omega) (by omega)]
    congr 1
    unfold left
    by_cases h2 : ((wg x + w : Nat) : Int) ≤ n
    · rw [if_pos h2, if_pos (by omega)]
      omega
    · rw [if_neg h2, if_neg (by omega)]
  · rw [left_neg h, if_pos (by decide), left_neg (by omega)]
theorem sz_end {m : Int} (h : 0 ≤ m) : some m = some (left m 0) := by
  rw [left_pos (by omega)]
  simp
theorem sz_flat {α : Type} {ok : α → Prop} {g : List α → Int → Option Int} (hg : ∀ a n, g a n = if (decide (IntKind.i64.wrap (n - (a.length : Int)) < 0)) = true then some (-1) else some (IntKind.i64.wrap (n - (a.length : Int)))) : Sz g (okL ok) (wL w0) := by
  intro x n hx h0 hn
  rw [hg]
  have := sz_nat (w := 0) (K := some (IntKind.i64.wrap (n - (x.length : Int)))) hx.1 h0 hn fun m e a b => by rw [e]; exact sz_end a
  rw [this]
  simp [wL, sum_w0]
theorem sz_loop {α : Type} {ok : α → Prop} {wf : α → Nat} {gf : α → Int → Option Int} {gl : List α → Nat → Int → Option (Int ⊕ Int)} (h0 : ∀ k v, gl [] k v = some (.inr v)) (h1 : ∀ x l k v, gl (x :: l) k v = (gf x v).bind fun y => if (decide (y < 0)) = true then some (.inl (-1)) else gl l (k + 1) y) (hf : Sz gf ok wf) : ∀ (xs : List α) (k : Nat) (n : Int), (∀ x ∈ xs, ok x) → 0 ≤ n → n ≤ 1048576 → gl xs k n = some (if (sumW wf xs : Int) ≤ n then .inr (n - sumW wf xs) else .inl (-1))
  | [], k, n, hx, a, b => by rw [h0]; simp [sumW, a]
  | x :: xs, k, n, hx, a, b => by
    rw [h1, hf x n (hx x (by simp)) a b]
    have hs : sumW wf (x :: xs) = wf x + sumW wf xs := rfl
    rw [hs]
    simp only [Option.bind_some]
    by_cases h : (wf x : Int) ≤ n
    · rw [left_pos h, if_neg (by simp; omega), sz_loop h0 h1 hf xs (k + 1) _ (fun y hy => hx y (by simp [hy])) (by omega) (by omega)]
      by_cases h2 : ((wf x + sumW wf xs : Nat) : Int) ≤ n
      · rw [if_pos h2, if_pos (by omega)]
        congr 2
        omega
      · rw [if_neg h2, if_neg (by omega)]
    · rw [left_neg h, if_pos (by decide), if_neg (by omega)]
theorem fits_small {n : Nat} (h : n ≤ 1048576) : fits n = true := decide_eq_true (by omega)
theorem sz_list {α : Type} {ok : α → Prop} {wf : α → Nat} {gf : α → Int → Option Int} {gl : List α → Nat → Int → Option (Int ⊕ Int)} {g : List α → Int → Option Int} (hf : Sz gf ok wf) (h0 : ∀ k v, gl [] k v = some (.inr v)) (h1 : ∀ x l k v, gl (x :: l) k v = (gf x v).bind fun y => if (decide (y < 0)) = true then some (.inl (-1)) else gl l (k + 1) y)
    (hg : ∀ a n, g a n = if (decide (IntKind.i64.wrap (n - (a.length : Int)) < 0)) = true then some (-1) else (if fits a.length = true then ((gl a 0 (IntKind.i64.wrap (n - (a.length : Int)))).bind fun q => match q with | .inl r => some r | .inr q => some q) else none)) : Sz g (okL ok) (wL wf) := by
  intro x n hx a b
  rw [hg]
  by_cases hb : (x.length : Int) ≤ n
  · refine sz_nat hx.1 a b fun m e c d => ?_
    rw [e, if_pos (fits_small (by omega)), sz_loop h0 h1 hf x 0 m hx.2 c d]
    by_cases h : (sumW wf x : Int) ≤ m
    · rw [if_pos h, left_pos h]
      rfl
    · rw [if_neg h, left_neg h]
      rfl
  · have hm := maxLen_le
    have hl := hx.1
    have e : IntKind.i64.wrap (n - (x.length : Int)) = n - x.length := wrap_id (by omega) (by omega)
    rw [e, if_pos (by simp; omega), left_neg (by unfold wL; omega)]
end
theorem sum_mem {α : Type} {w : α → Nat} : ∀ {xs : List α} {x : α}, x ∈ xs → w x ≤ sumW w xs
  | y :: ys, x, h => by
    rcases List.mem_cons.1 h with rfl | h
    · simp [sumW]
    · have := sum_mem (w := w) h
      simp only [sumW]
      omega
theorem idx_nat {α : Type} {xs : List α} {k : Nat} : idx xs (k : Int) = xs[k]? := by
  unfold idx
  rw [if_pos (by omega)]
  simp
theorem cp_loop {α : Type} {g : α → Option α} {gl : List α → Nat → List α → Option (List α)} (h0 : ∀ k v, gl [] k v = some v) (h1 : ∀ x l k v, gl (x :: l) k v = (g x).bind fun y => (idx v (k : Int)).bind fun _ => gl l (k + 1) (List.set v (k : Int).toNat y)) : ∀ (l : List α) (k : Nat) (a v : List α), (∀ x ∈ l, g x = some x) → a.length = k → v.length = l.length → gl l k (a ++ v) = some (a ++ l)
  | [], k, a, v, hx, ha, hv => by
    rw [h0]
    cases v with
    | nil => rfl
    | cons => cases hv
  | x :: l, k, a, [], hx, ha, hv => by cases hv
  | x :: l, k, a, y :: v, hx, ha, hv => by
    rw [h1, hx x (by simp)]
    subst ha
    have e1 : (a ++ y :: v)[a.length]? = some y := by simp
    have e2 : (a ++ y :: v).set (a.length : Int).toNat x = (a ++ [x]) ++ v := by simp
    simp only [Option.bind_some, idx_nat, e1, e2]
    have := cp_loop h0 h1 l (a.length + 1) (a ++ [x]) v (fun z hz => hx z (by simp [hz])) (by simp) (by simpa using hv)
    rw [this]
    simp
theorem cp_list {α : Type} {g : α → Option α} {w : α → Nat} {gl : List α → Nat → List α → Option (List α)} {f : List α → Option (List α)} {z : α} (hg : Cp g w) (h0 : ∀ k v, gl [] k v = some v) (h1 : ∀ x l k v, gl (x :: l) k v = (g x).bind fun y => (idx v (k : Int)).bind fun _ => gl l (k + 1) (List.set v (k : Int).toNat y))
    (hf : ∀ a, f a = if (decide (0 ≤ (a.length : Int)) && fits ((a.length : Int)).toNat) = true then if fits a.length = true then ((gl a 0 (List.replicate ((a.length : Int)).toNat z)).bind fun q => some q) else none else none) : Cp f (wL w) := by
  intro x hx
  have hl : x.length ≤ 1048576 := by unfold wL at hx; omega
  have hs : ∀ y ∈ x, g y = some y := fun y hy => hg y (by have := sum_mem (w := w) hy; unfold wL at hx; omega)
  have hf' := fits_small hl
  rw [hf, if_pos (by simp [hf']), if_pos hf']
  have := cp_loop h0 h1 x 0 [] (List.replicate ((x.length : Int)).toNat z) hs rfl (by simp)
  simp only [List.nil_append] at this
  rw [this]
  rfl
theorem cp_id {α : Type} {w : α → Nat} : Cp (fun x : α => some x) w := fun x _ => rfl
theorem eq_loop {α : Type} {g : α → α → Option Bool} {gl : List α → List α → Nat → Option (Bool ⊕ Unit)} (h0 : ∀ a k, gl a [] k = some (.inr ())) (h1 : ∀ a x l k, gl a (x :: l) k = (idx a (k : Int)).bind fun y => (g x y).bind fun b => if (!b) = true then some (.inl false) else gl a l (k + 1)) : ∀ (l p : List α), (∀ x ∈ l, g x x = some true) → gl (p ++ l) l p.length = some (.inr ())
  | [], p, hx => by rw [h0]
  | x :: l, p, hx => by
    have e1 : (p ++ x :: l)[p.length]? = some x := by simp
    rw [h1]
    simp only [idx_nat, e1, Option.bind_some, hx x (by simp)]
    have := eq_loop h0 h1 l (p ++ [x]) fun z hz => hx z (by simp [hz])
    simpa using this
theorem eq_list {α : Type} {g : α → α → Option Bool} {w : α → Nat} {gl : List α → List α → Nat → Option (Bool ⊕ Unit)} {f : List α → List α → Option Bool} (hg : Eqs g w) (h0 : ∀ a k, gl a [] k = some (.inr ())) (h1 : ∀ a x l k, gl a (x :: l) k = (idx a (k : Int)).bind fun y => (g x y).bind fun b => if (!b) = true then some (.inl false) else gl a l (k + 1))
    (hf : ∀ a b, f a b = if ((a.length : Int) != (b.length : Int)) = true then some false else (if fits a.length = true then ((gl b a 0).bind fun q => match q with | .inl r => some r | .inr _ => some true) else none)) : Eqs f (wL w) := by
  intro x hx
  have hl : x.length ≤ 1048576 := by unfold wL at hx; omega
  have hs : ∀ y ∈ x, g y y = some true := fun y hy => hg y (by have := sum_mem (w := w) hy; unfold wL at hx; omega)
  rw [hf, if_neg (by simp), if_pos (fits_small hl)]
  have := eq_loop h0 h1 x [] hs
  simp only [List.nil_append, List.length_nil] at this
  rw [this]
  rfl
theorem eq_id {α : Type} [BEq α] [LawfulBEq α] {w : α → Nat} : Eqs (fun x y : α => some (x == y)) w := fun x _ => by simp
theorem seq_self (s : Str) : seq s s = true := by simp [seq]
end Go.Proofs.AM
