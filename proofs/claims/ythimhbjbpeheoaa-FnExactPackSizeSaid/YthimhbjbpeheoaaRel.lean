/- A part of the proof of 'FnExactPackSizeSaid' (Rel): lemmas on an abstract machine for the program's functions. Conditions: none. -/
import Derived.Test.YthimhbjbpeheoaaCore
set_option linter.unusedVariables false
namespace Go.Proofs.AM
open Go.RowKit
structure Tab where
  ty : Nat → TypeId
  fn : Nat → FuncId
mutual
def ROc (F : Nat → Prop) (w : World) : T → Value → Prop
  | .v x, u => u = x ∧ x.oneCell' = true
  | .sl _ _ rows, u => ∃ A cap e, u = .slice A rows.length cap ∧ rows.length ≤ cap ∧ ROrows F w e A 0 rows
  | .al .., _ => False
  | .junk, _ => True
def ROrows (F : Nat → Prop) (w : World) (e : Nat) (A : Option Addr) : Nat → List (List T) → Prop
  | _, [] => True
  | i, r :: rs => r.length = e ∧ (∃ ad, A = some ad ∧ F ad.block ∧ ROcells F w ad (i * e) r) ∧ ROrows F w e A (i + 1) rs
def ROcells (F : Nat → Prop) (w : World) (ad : Addr) : Nat → List T → Prop
  | _, [] => True
  | p, c :: cs => (∃ u, w.cell? (ad.add p) = some u ∧ ROc F w c u) ∧ ROcells F w ad (p + 1) cs
end
def Hdr (b : Option Nat) (k off len cap : Nat) (v : Value) : Prop :=
  ∃ A, v = .slice A len (cap - off) ∧ off + len ≤ cap ∧ (b = none → cap = 0) ∧ (A = b.map (fun g => (⟨g, off * esz k, none⟩ : Addr)) ∨ (cap = off ∧ off ≠ 0))
mutual
def OWc (tb : Tab) (F : Nat → Prop) (w : World) : T → Value → List Nat → Prop
  | .v x, u, fp => u = x ∧ x.oneCell' = true ∧ fp = []
  | .sl true k rows, u, fp => (rows = [] ∧ u = .slice none 0 0 ∧ fp = []) ∨
      ∃ g cap cur fp', u = .slice (some ⟨g, 0, none⟩) rows.length cap ∧ w.heap[g]? = some (.cells cur (tb.ty k) (0, 0)) ∧ cur.size = cap * esz k ∧ rows.length ≤ cap ∧ cap ≤ maxLen ∧ fp = g :: fp' ∧ OWrows tb F w cur k 0 rows fp'
  | .sl false _ rows, u, fp => fp = [] ∧ ∃ A cap e, u = .slice A rows.length cap ∧ rows.length ≤ cap ∧ ROrows F w e A 0 rows
  | .al _ b cap off len k, u, fp => fp = [] ∧ Hdr b k off len cap u
  | .junk, u, fp => fp = [] ∧ u.oneCell' = true
def OWrows (tb : Tab) (F : Nat → Prop) (w : World) (cur : Array Value) (k : Nat) : Nat → List (List T) → List Nat → Prop
  | _, [], fp => fp = []
  | i, r :: rs, fp => ∃ f1 f2, fp = f1 ++ f2 ∧ r.length = esz k ∧ OWcells tb F w cur (i * esz k) r f1 ∧ OWrows tb F w cur k (i + 1) rs f2
def OWcells (tb : Tab) (F : Nat → Prop) (w : World) (cur : Array Value) : Nat → List T → List Nat → Prop
  | _, [], fp => fp = []
  | p, c :: cs, fp => ∃ f1 f2 u, fp = f1 ++ f2 ∧ cur[p]? = some u ∧ OWc tb F w c u f1 ∧ OWcells tb F w cur (p + 1) cs f2
end
mutual
def RelV (tb : Tab) (F : Nat → Prop) (w : World) : AV → Value → Prop
  | .v x, u => u = x
  | .ro rows, u => ∃ A cap e, u = .slice A rows.length cap ∧ rows.length ≤ cap ∧ ROrows F w e A 0 rows
  | .nil, u => u = .slice none 0 0
  | .ref _ b cap off len k, u => Hdr b k off len cap u
  | .ptr _ b k r c, u => ∃ g, b = some g ∧ u = .pointer (some ⟨g, r * esz k + c, none⟩)
  | .rptr cs, u => ∃ ad, u = .pointer (some ad) ∧ F ad.block ∧ ROcells F w ad 0 cs
  | .agg cs, u => ∃ us : List Value, u = .agg us.toArray ∧ RelL tb F w cs us
  | .tup cs, u => ∃ us : List Value, u = .tuple us.toArray ∧ RelL tb F w cs us
  | .fn f caps, u => ∃ us : List Value, u = .func (.func (tb.fn f)) #[] us.toArray ∧ RelL tb F w caps us
  | .junk, _ => True
  | .io .., _ => False
  | .pio .., _ => False
def RelL (tb : Tab) (F : Nat → Prop) (w : World) : List AV → List Value → Prop
  | [], us => us = []
  | x :: xs, us => ∃ u us', us = u :: us' ∧ RelV tb F w x u ∧ RelL tb F w xs us'
end
def OWe (tb : Tab) (F : Nat → Prop) (w : World) (e : Ent) (fp : List Nat) : Prop := match e.b with
  | none => e.rows = [] ∧ e.cap = 0 ∧ e.box = false ∧ fp = []
  | some g => ∃ cur fp', w.heap[g]? = some (.cells cur (tb.ty e.k) (0, 0)) ∧ cur.size = e.cap * esz e.k ∧ e.rows.length ≤ e.cap ∧ e.cap ≤ maxLen ∧ fp = g :: fp' ∧ OWrows tb F w cur e.k 0 e.rows fp'
section
variable {F F' : Nat → Prop} {w w' : World} {tb : Tab}
theorem cell_same {a : Addr} (h : w'.heap[a.block]? = w.heap[a.block]?) : w'.cell? a = w.cell? a := World.cell?_of_block h
theorem add_block (a : Addr) (n : Nat) : (a.add n).block = a.block := by unfold Addr.add; split <;> rfl
mutual
theorem ROc_keep (h : ∀ k, F k → w'.heap[k]? = w.heap[k]?) (hF : ∀ k, F k → F' k) : ∀ (c : T) (u : Value), ROc F w c u → ROc F' w' c u
  | .v x, u, r => by simpa [ROc] using r
  | .sl o k rows, u, r => by
    simp only [ROc] at r ⊢
    obtain ⟨A, cap, e, h1, h2, h3⟩ := r
    exact ⟨A, cap, e, h1, h2, ROrows_keep h hF e A rows 0 h3⟩
  | .al .., u, r => by simp [ROc] at r
  | .junk, u, r => by simp [ROc]
theorem ROrows_keep (h : ∀ k, F k → w'.heap[k]? = w.heap[k]?) (hF : ∀ k, F k → F' k) (e : Nat) (A : Option Addr) : ∀ (rows : List (List T)) (i : Nat), ROrows F w e A i rows → ROrows F' w' e A i rows
  | [], i, _ => by simp [ROrows]
  | r :: rs, i, q => by
    simp only [ROrows] at q ⊢
    obtain ⟨h1, ⟨ad, h2, h3, h4⟩, h5⟩ := q
    exact ⟨h1, ⟨ad, h2, hF _ h3, ROcells_keep h hF ad h3 r _ h4⟩, ROrows_keep h hF e A rs _ h5⟩
theorem ROcells_keep (h : ∀ k, F k → w'.heap[k]? = w.heap[k]?) (hF : ∀ k, F k → F' k) (ad : Addr) (had : F ad.block) : ∀ (cs : List T) (p : Nat), ROcells F w ad p cs → ROcells F' w' ad p cs
  | [], p, _ => by simp [ROcells]
  | c :: cs, p, q => by
    simp only [ROcells] at q ⊢
    obtain ⟨⟨u, h1, h2⟩, h3⟩ := q
    exact ⟨⟨u, (cell_same (w := w) (w' := w') (by rw [add_block]; exact h _ had)).trans h1, ROc_keep h hF c u h2⟩, ROcells_keep h hF ad had cs _ h3⟩
end
mutual
theorem OWc_keep (h : ∀ k, F k → w'.heap[k]? = w.heap[k]?) (hF : ∀ k, F k → F' k) : ∀ (c : T) (u : Value) (fp : List Nat), (∀ k ∈ fp, w'.heap[k]? = w.heap[k]?) → OWc tb F w c u fp → OWc tb F' w' c u fp
  | .v x, u, fp, _, r => by simpa [OWc] using r
  | .sl true k rows, u, fp, hf, r => by
    simp only [OWc] at r ⊢
    rcases r with r | ⟨g, cap, cur, fp', h1, h2, h3, h4, h5, h6, h7⟩
    · exact .inl r
    · subst h6
      exact .inr ⟨g, cap, cur, fp', h1, (hf g (by simp)).trans h2, h3, h4, h5, rfl, OWrows_keep h hF cur k rows 0 fp' (fun q hq => hf q (by simp [hq])) h7⟩
  | .sl false k rows, u, fp, hf, r => by
    simp only [OWc] at r ⊢
    obtain ⟨h0, A, cap, e, h1, h2, h3⟩ := r
    exact ⟨h0, A, cap, e, h1, h2, ROrows_keep h hF e A rows 0 h3⟩
  | .al .., u, fp, hf, r => by simpa [OWc] using r
  | .junk, u, fp, hf, r => by simpa [OWc] using r
theorem OWrows_keep (h : ∀ k, F k → w'.heap[k]? = w.heap[k]?) (hF : ∀ k, F k → F' k) (cur : Array Value) (k : Nat) : ∀ (rows : List (List T)) (i : Nat) (fp : List Nat), (∀ k ∈ fp, w'.heap[k]? = w.heap[k]?) → OWrows tb F w cur k i rows fp → OWrows tb F' w' cur k i rows fp
  | [], i, fp, _, r => by simpa [OWrows] using r
  | r :: rs, i, fp, hf, q => by
    simp only [OWrows] at q ⊢
    obtain ⟨f1, f2, rfl, h1, h2, h3⟩ := q
    exact ⟨f1, f2, rfl, h1, OWcells_keep h hF cur r _ f1 (fun q hq => hf q (by simp [hq])) h2, OWrows_keep h hF cur k rs _ f2 (fun q hq => hf q (by simp [hq])) h3⟩
theorem OWcells_keep (h : ∀ k, F k → w'.heap[k]? = w.heap[k]?) (hF : ∀ k, F k → F' k) (cur : Array Value) : ∀ (cs : List T) (p : Nat) (fp : List Nat), (∀ k ∈ fp, w'.heap[k]? = w.heap[k]?) → OWcells tb F w cur p cs fp → OWcells tb F' w' cur p cs fp
  | [], p, fp, _, r => by simpa [OWcells] using r
  | c :: cs, p, fp, hf, q => by
    simp only [OWcells] at q ⊢
    obtain ⟨f1, f2, u, rfl, h1, h2, h3⟩ := q
    exact ⟨f1, f2, u, rfl, h1, OWc_keep h hF c u f1 (fun q hq => hf q (by simp [hq])) h2, OWcells_keep h hF cur cs _ f2 (fun q hq => hf q (by simp [hq])) h3⟩
end
theorem OWe_keep (h : ∀ k, F k → w'.heap[k]? = w.heap[k]?) (hF : ∀ k, F k → F' k) {e : Ent} {fp : List Nat} (hf : ∀ k ∈ fp, w'.heap[k]? = w.heap[k]?) (r : OWe tb F w e fp) : OWe tb F' w' e fp := by
  unfold OWe at r ⊢
  split
  · rename_i hb; rw [hb] at r; exact r
  · rename_i g hb; rw [hb] at r
    obtain ⟨cur, fp', h1, h2, h3, h4, rfl, h6⟩ := r
    exact ⟨cur, fp', (hf g (by simp)).trans h1, h2, h3, h4, rfl, OWrows_keep h hF cur e.k e.rows 0 fp' (fun q hq => hf q (by simp [hq])) h6⟩
mutual
theorem RelV_keep (h : ∀ k, F k → w'.heap[k]? = w.heap[k]?) (hF : ∀ k, F k → F' k) : ∀ (x : AV) (u : Value), RelV tb F w x u → RelV tb F' w' x u
  | .v x, u, r => by simpa [RelV] using r
  | .ro rows, u, r => by
    simp only [RelV] at r ⊢
    obtain ⟨A, cap, e, h1, h2, h3⟩ := r
    exact ⟨A, cap, e, h1, h2, ROrows_keep h hF e A rows 0 h3⟩
  | .nil, u, r => by simpa [RelV] using r
  | .ref .., u, r => by simpa [RelV] using r
  | .ptr .., u, r => by simpa [RelV] using r
  | .rptr cs, u, r => by
    simp only [RelV] at r ⊢
    obtain ⟨ad, h1, h2, h3⟩ := r
    exact ⟨ad, h1, hF _ h2, ROcells_keep h hF ad h2 cs 0 h3⟩
  | .agg cs, u, r => by
    simp only [RelV] at r ⊢
    obtain ⟨us, h1, h2⟩ := r
    exact ⟨us, h1, RelL_keep h hF cs us h2⟩
  | .tup cs, u, r => by
    simp only [RelV] at r ⊢
    obtain ⟨us, h1, h2⟩ := r
    exact ⟨us, h1, RelL_keep h hF cs us h2⟩
  | .fn f cs, u, r => by
    simp only [RelV] at r ⊢
    obtain ⟨us, h1, h2⟩ := r
    exact ⟨us, h1, RelL_keep h hF cs us h2⟩
  | .junk, u, r => by simp [RelV]
  | .io .., u, r => by simp [RelV] at r
  | .pio .., u, r => by simp [RelV] at r
theorem RelL_keep (h : ∀ k, F k → w'.heap[k]? = w.heap[k]?) (hF : ∀ k, F k → F' k) : ∀ (xs : List AV) (us : List Value), RelL tb F w xs us → RelL tb F' w' xs us
  | [], us, r => by simpa [RelL] using r
  | x :: xs, us, r => by
    simp only [RelL] at r ⊢
    obtain ⟨u, us', h1, h2, h3⟩ := r
    exact ⟨u, us', h1, RelV_keep h hF x u h2, RelL_keep h hF xs us' h3⟩
end
end
end Go.Proofs.AM
