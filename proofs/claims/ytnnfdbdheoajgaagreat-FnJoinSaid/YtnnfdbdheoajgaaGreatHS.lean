/- Lemmas of the proof (HS), on an abstract machine. Conditions: none. -/
import Derived.Test.YtnnfdbdheoajgaaGreatLk
import Derived.Shelf.SlSortCmp.WholeK
set_option linter.unusedVariables false
namespace Go.Proofs.AM
open Go.RowKit
variable {P : Program} {tb : Tab} {F : Nat → Prop} {w w' : World}
def vF7 : T → Bool
 | .v _ => true
 | .sl false _ _ => true
 | _ => false
theorem xI7 {t : T} {u : Value} {fp : List Nat} (h : vF7 t = true) (r : OWc tb F w t u fp) : fp = [] := by
 cases t with
 | v x => simp only [OWc] at r; exact r.2.2
 | sl m k rows => cases m with
  | true => cases h
  | false => simp only [OWc] at r; exact r.1
 | _ => cases h
theorem oX7 {t : T} {u : Value} {fp : List Nat} (h : vF7 t = true) (r : OWc tb F w t u fp) : u.oneCell' = true := by
 cases t with
 | v x => simp only [OWc] at r; rw [r.1]; exact r.2.1
 | sl m k rows => cases m with
  | true => cases h
  | false => simp only [OWc] at r; obtain ⟨_, A, cap, e, rfl, _⟩ := r; rfl
 | _ => cases h
theorem lG7 {cur : Array Value} : ∀ {cs : List T} {p : Nat} {fp : List Nat}, cs.all vF7 = true → ar7 tb F w cur p cs fp → fp = [] ∧ ∃ us : List Value, us.length = cs.length ∧ ∀ c t, cs[c]? = some t → ∃ u, us[c]? = some u ∧ cur[p + c]? = some u ∧ OWc tb F w t u []
 | [], p, fp, _, r => by
  simp only [ar7] at r
  exact ⟨r, [], rfl, fun c t h => by simp at h⟩
 | t :: cs, p, fp, h, r => by
  simp only [ar7] at r
  obtain ⟨f1, f2, u, rfl, h1, h2, h3⟩ := r
  simp only [List.all_cons, Bool.and_eq_true] at h
  obtain ⟨rfl, us, g1, g2⟩ := lG7 h.2 h3
  have := xI7 h.1 h2
  subst this
  refine ⟨rfl, u :: us, by simp [g1], fun c t' ht => ?_⟩
  cases c with
  | zero =>
   simp only [List.getElem?_cons_zero, Option.some.injEq] at ht
   subst ht
   exact ⟨u, rfl, h1, h2⟩
  | succ c =>
   simp only [List.getElem?_cons_succ] at ht ⊢
   obtain ⟨v, a1, a2, a3⟩ := g2 c t' ht
   exact ⟨v, a1, by rw [show p + (c + 1) = p + 1 + c by omega]; exact a2, a3⟩
theorem nJ7 {cur : Array Value} : ∀ {cs : List T} {p : Nat}, (∀ c t, cs[c]? = some t → ∃ u, cur[p + c]? = some u ∧ OWc tb F w t u []) → ar7 tb F w cur p cs []
 | [], p, h => by simp [ar7]
 | t :: cs, p, h => by
  obtain ⟨u, h1, h2⟩ := h 0 t rfl
  simp only [ar7]
  refine ⟨[], [], u, rfl, h1, h2, nJ7 fun c t' ht => ?_⟩
  have := h (c + 1) t' (by simpa using ht)
  rwa [show p + (c + 1) = p + 1 + c by omega] at this
theorem jv7 {cur : Array Value} {k : Nat} : ∀ {rows : List (List T)} {i : Nat} {fp : List Nat}, (∀ r, r ∈ rows → r.all vF7 = true) → at7 tb F w cur k i rows fp → fp = [] ∧ ∀ j r, rows[j]? = some r → r.length = esz k ∧ ∃ us : List Value, us.length = esz k ∧ ∀ c t, r[c]? = some t → ∃ u, us[c]? = some u ∧ cur[(i + j) * esz k + c]? = some u ∧ OWc tb F w t u []
 | [], i, fp, _, r => by
  simp only [at7] at r
  exact ⟨r, fun j r h => by simp at h⟩
 | row :: rows, i, fp, h, r => by
  simp only [at7] at r
  obtain ⟨f1, f2, rfl, h1, h2, h3⟩ := r
  obtain ⟨rfl, us, g1, g2⟩ := lG7 (h row (by simp)) h2
  obtain ⟨rfl, g3⟩ := jv7 (fun r hr => h r (by simp [hr])) h3
  refine ⟨rfl, fun j r' hr => ?_⟩
  cases j with
  | zero =>
   simp only [List.getElem?_cons_zero, Option.some.injEq] at hr
   subst hr
   exact ⟨h1, us, by rw [g1, h1], by simpa using g2⟩
  | succ j =>
   simp only [List.getElem?_cons_succ] at hr
   have := g3 j r' hr
   rwa [show i + (j + 1) = i + 1 + j by omega]
theorem qC7 {cur : Array Value} {k : Nat} : ∀ {rows : List (List T)} {i : Nat}, (∀ j r, rows[j]? = some r → r.length = esz k ∧ ∀ c t, r[c]? = some t → ∃ u, cur[(i + j) * esz k + c]? = some u ∧ OWc tb F w t u []) → at7 tb F w cur k i rows []
 | [], i, h => by simp [at7]
 | row :: rows, i, h => by
  obtain ⟨h1, h2⟩ := h 0 row rfl
  simp only [at7]
  refine ⟨[], [], rfl, h1, nJ7 (by simpa using h2), qC7 fun j r hr => ?_⟩
  have := h (j + 1) r (by simpa using hr)
  rwa [show i + (j + 1) = i + 1 + j by omega] at this
section
variable {α : Type} [Inhabited α] {enc : α → Value} {g n : Nat} {D : Array α} {os : Array Obj} {cur : Array Value} {ty : TypeId} {fr : Nat × Nat}
theorem Hn7 (h : w.heap[g]? = some (.cells cur ty fr)) : (Sort.grow (Sort.putRow enc (Sort.ahead w n) g 0 D) os).heap[g]? = some (.cells (Sort.putCells enc 0 D cur) ty fr) := by
 have hg : g < w.heap.size := (Array.getElem?_eq_some_iff.1 h).1
 simp only [Sort.grow, Sort.putRow, Sort.mapBlock, Sort.ahead]
 rw [Array.getElem?_append_left (by simpa using hg), Array.getElem?_modify, if_pos rfl, h]
 rfl
theorem t87 {j : Nat} (hj : j < w.heap.size) (hn : j ≠ g) : (Sort.grow (Sort.putRow enc (Sort.ahead w n) g 0 D) os).heap[j]? = w.heap[j]? := by
 simp only [Sort.grow, Sort.putRow, Sort.mapBlock, Sort.ahead]
 rw [Array.getElem?_append_left (by simpa using hj), Array.getElem?_modify, if_neg (Ne.symm hn)]
theorem jw7 : w.heap.size ≤ (Sort.grow (Sort.putRow enc (Sort.ahead w n) g 0 D) os).heap.size := by
 simp [Sort.grow, Sort.putRow, Sort.mapBlock, Sort.ahead]
theorem xJ7 {j : Nat} (hj : j < cur.size) : (Sort.putCells enc 0 D cur)[j]? = if j < D.size then some (enc D[j]!) else cur[j]? := by
 simp only [Sort.putCells, Array.getElem?_mapIdx, Nat.zero_le, true_and, Nat.zero_add, Nat.sub_zero]
 rw [Array.getElem?_eq_getElem hj]
 simp only [Option.map_some]
 split <;> rfl
theorem qD7 : (Sort.putCells enc 0 D cur).size = cur.size := by simp [Sort.putCells]
end
theorem MF7 {α β : Type} {f : α → β} : ∀ {l : List α} {m m' : List β}, m'.Perm m → m = l.map f → ∃ l' : List α, l'.Perm l ∧ l'.map f = m' := by
 intro l m m' hp
 induction hp generalizing l with
 | nil =>
  intro h
  cases l with
  | nil => exact ⟨[], .refl _, rfl⟩
  | cons => cases h
 | cons x p ih =>
  intro h
  cases l with
  | nil => cases h
  | cons a l =>
   simp only [List.map_cons, List.cons.injEq] at h
   obtain ⟨l', h1, h2⟩ := ih h.2
   exact ⟨a :: l', h1.cons a, by simp [h2, h.1]⟩
 | swap x y l0 =>
  intro h
  match l, h with
  | a :: b :: l, h =>
   simp only [List.map_cons, List.cons.injEq] at h
   exact ⟨b :: a :: l, .swap a b l, by simp [h.1, h.2.1, h.2.2]⟩
 | trans p1 p2 ih1 ih2 =>
  intro h
  obtain ⟨l2, h1, h2⟩ := ih2 h
  obtain ⟨l1, h3, h4⟩ := ih1 h2.symm
  exact ⟨l1, h3.trans h1, h4⟩
end Go.Proofs.AM
