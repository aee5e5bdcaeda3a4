/- Lemmas of the proof (Rel), on an abstract machine. Conditions: none. -/
import Derived.Test.YtnnfdbdheoajgaaGreatCore
set_option linter.unusedVariables false
namespace Go.Proofs.AM
open Go.RowKit
structure Tab where
 ty : Nat → TypeId
 fn : Nat → FuncId
 gs : List (Nat × List ByteArray)
 gx : List (Nat × Array Value)
mutual
def ROc (F : Nat → Prop) (w : World) : T → Value → Prop
 | .v x, u => u = x ∧ x.oneCell' = true
 | .sl _ _ rows, u => ∃ A cap e, u = .slice A rows.length cap ∧ rows.length ≤ cap ∧ aI7 F w e A 0 rows
 | .al .., _ => False
 | .bx .., _ => False
 | .rw .., _ => False
 | .junk, _ => True
def aI7 (F : Nat → Prop) (w : World) (e : Nat) (A : Option Addr) : Nat → List (List T) → Prop
 | _, [] => True
 | i, r :: rs => r.length = e ∧ (∃ ad, A = some ad ∧ F ad.block ∧ aO7 F w ad (i * e) r) ∧ aI7 F w e A (i + 1) rs
def aO7 (F : Nat → Prop) (w : World) (ad : Addr) : Nat → List T → Prop
 | _, [] => True
 | p, c :: cs => (∃ u, w.cell? (ad.add p) = some u ∧ ROc F w c u) ∧ aO7 F w ad (p + 1) cs
end
def Hdr (b : Option Nat) (k off len cap : Nat) (v : Value) : Prop :=
 ∃ A, v = .slice A len (cap - off) ∧ off + len ≤ cap ∧ (b = none → cap = 0) ∧ (A = b.map (fun g => (⟨g, off * esz k, none⟩ : Addr)) ∨ (cap = off ∧ off ≠ 0))
mutual
def OWc (tb : Tab) (F : Nat → Prop) (w : World) : T → Value → List Nat → Prop
 | .v x, u, fp => u = x ∧ x.oneCell' = true ∧ fp = []
 | .sl true k rows, u, fp => (rows = [] ∧ u = .slice none 0 0 ∧ fp = []) ∨
   ∃ g cap cur fp', u = .slice (some ⟨g, 0, none⟩) rows.length cap ∧ w.heap[g]? = some (.cells cur (tb.ty k) (0, 0)) ∧ cur.size = cap * esz k ∧ rows.length ≤ cap ∧ cap ≤ maxLen ∧ fp = g :: fp' ∧ at7 tb F w cur k 0 rows fp'
 | .sl false _ rows, u, fp => fp = [] ∧ ∃ A cap e, u = .slice A rows.length cap ∧ rows.length ≤ cap ∧ aI7 F w e A 0 rows
 | .al _ b cap off len k, u, fp => fp = [] ∧ Hdr b k off len cap u
 | .bx k row, u, fp => ∃ g cur fp', u = .pointer (some ⟨g, 0, none⟩) ∧ w.heap[g]? = some (.cells cur (tb.ty k) (0, 0)) ∧ cur.size = esz k ∧ row.length = esz k ∧ fp = g :: fp' ∧ ar7 tb F w cur 0 row fp'
 | .rw A cap rows, u, fp => fp = [] ∧ u = .slice A rows.length cap ∧ rows.length ≤ cap ∧ ∃ e, aI7 F w e A 0 rows
 | .junk, u, fp => fp = [] ∧ u.oneCell' = true
def at7 (tb : Tab) (F : Nat → Prop) (w : World) (cur : Array Value) (k : Nat) : Nat → List (List T) → List Nat → Prop
 | _, [], fp => fp = []
 | i, r :: rs, fp => ∃ f1 f2, fp = f1 ++ f2 ∧ r.length = esz k ∧ ar7 tb F w cur (i * esz k) r f1 ∧ at7 tb F w cur k (i + 1) rs f2
def ar7 (tb : Tab) (F : Nat → Prop) (w : World) (cur : Array Value) : Nat → List T → List Nat → Prop
 | _, [], fp => fp = []
 | p, c :: cs, fp => ∃ f1 f2 u, fp = f1 ++ f2 ∧ cur[p]? = some u ∧ OWc tb F w c u f1 ∧ ar7 tb F w cur (p + 1) cs f2
end
mutual
def ay7 (tb : Tab) (F : Nat → Prop) (w : World) : AV → Value → Prop
 | .v x, u => u = x
 | .ro rows, u => ∃ A cap e, u = .slice A rows.length cap ∧ rows.length ≤ cap ∧ aI7 F w e A 0 rows
 | .raw A cap rows, u => u = .slice A rows.length cap ∧ rows.length ≤ cap ∧ ∃ e, aI7 F w e A 0 rows
 | .lref _ b cap len k, u => Hdr b k 0 len cap u
 | .nil, u => u = .slice none 0 0
 | .ref _ b cap off len k, u => Hdr b k off len cap u
 | .ptr _ b k r c, u => ∃ g, b = some g ∧ u = .pointer (some ⟨g, r * esz k + c, none⟩)
 | .rptr cs, u => ∃ ad, u = .pointer (some ad) ∧ F ad.block ∧ aO7 F w ad 0 cs
 | .agg cs, u => ∃ us : List Value, u = .agg us.toArray ∧ aW7 tb F w cs us
 | .tup cs, u => ∃ us : List Value, u = .tuple us.toArray ∧ aW7 tb F w cs us
 | .fn f caps, u => ∃ us : List Value, u = .func (.func (tb.fn f)) #[] us.toArray ∧ aW7 tb F w caps us
 | .junk, _ => True
 | .io .., _ => False
 | .pio .., _ => False
def aW7 (tb : Tab) (F : Nat → Prop) (w : World) : List AV → List Value → Prop
 | [], us => us = []
 | x :: xs, us => ∃ u us', us = u :: us' ∧ ay7 tb F w x u ∧ aW7 tb F w xs us'
end
def Rb7 (w : World) (e : Ent) (fp : List Nat) : Prop := ∃ g es arr clock, e.rows = ja7 g es ∧ e.cap = 0 ∧ e.box = true ∧ fp = [g] ∧ w.heap[g]? = some (.map arr clock) ∧ arr.toList.map (fun x => (x.key, x.val)) = es.map fun p => (Value.int .i64 p.1, Value.int .i64 p.2)
def OWe (tb : Tab) (F : Nat → Prop) (w : World) (e : Ent) (fp : List Nat) : Prop := match e.b with
 | none => (e.rows = [] ∧ e.cap = 0 ∧ e.box = false ∧ fp = []) ∨ Rb7 w e fp
 | some g => ∃ cur fp', w.heap[g]? = some (.cells cur (tb.ty e.k) (0, 0)) ∧ cur.size = e.cap * esz e.k ∧ e.rows.length ≤ e.cap ∧ e.cap ≤ maxLen ∧ fp = g :: fp' ∧ at7 tb F w cur e.k 0 e.rows fp'
section
variable {F F' : Nat → Prop} {w w' : World} {tb : Tab}
theorem wr7 {a : Addr} (h : w'.heap[a.block]? = w.heap[a.block]?) : w'.cell? a = w.cell? a := World.cell?_of_block h
theorem ib7 (a : Addr) (n : Nat) : (a.add n).block = a.block := by unfold Addr.add; split <;> rfl
mutual
theorem zz7 (h : ∀ k, F k → w'.heap[k]? = w.heap[k]?) (hF : ∀ k, F k → F' k) : ∀ (c : T) (u : Value), ROc F w c u → ROc F' w' c u
 | .v x, u, r => by simpa [ROc] using r
 | .sl o k rows, u, r => by
  simp only [ROc] at r ⊢
  obtain ⟨A, cap, e, h1, h2, h3⟩ := r
  exact ⟨A, cap, e, h1, h2, cA7 h hF e A rows 0 h3⟩
 | .al .., u, r => by simp [ROc] at r
 | .bx .., u, r => by simp [ROc] at r
 | .rw .., u, r => by simp [ROc] at r
 | .junk, u, r => by simp [ROc]
theorem cA7 (h : ∀ k, F k → w'.heap[k]? = w.heap[k]?) (hF : ∀ k, F k → F' k) (e : Nat) (A : Option Addr) : ∀ (rows : List (List T)) (i : Nat), aI7 F w e A i rows → aI7 F' w' e A i rows
 | [], i, _ => by simp [aI7]
 | r :: rs, i, q => by
  simp only [aI7] at q ⊢
  obtain ⟨h1, ⟨ad, h2, h3, h4⟩, h5⟩ := q
  exact ⟨h1, ⟨ad, h2, hF _ h3, d47 h hF ad h3 r _ h4⟩, cA7 h hF e A rs _ h5⟩
theorem d47 (h : ∀ k, F k → w'.heap[k]? = w.heap[k]?) (hF : ∀ k, F k → F' k) (ad : Addr) (had : F ad.block) : ∀ (cs : List T) (p : Nat), aO7 F w ad p cs → aO7 F' w' ad p cs
 | [], p, _ => by simp [aO7]
 | c :: cs, p, q => by
  simp only [aO7] at q ⊢
  obtain ⟨⟨u, h1, h2⟩, h3⟩ := q
  exact ⟨⟨u, (wr7 (w := w) (w' := w') (by rw [ib7]; exact h _ had)).trans h1, zz7 h hF c u h2⟩, d47 h hF ad had cs _ h3⟩
end
mutual
theorem ox7 (h : ∀ k, F k → w'.heap[k]? = w.heap[k]?) (hF : ∀ k, F k → F' k) : ∀ (c : T) (u : Value) (fp : List Nat), (∀ k ∈ fp, w'.heap[k]? = w.heap[k]?) → OWc tb F w c u fp → OWc tb F' w' c u fp
 | .v x, u, fp, _, r => by simpa [OWc] using r
 | .sl true k rows, u, fp, hf, r => by
  simp only [OWc] at r ⊢
  rcases r with r | ⟨g, cap, cur, fp', h1, h2, h3, h4, h5, h6, h7⟩
  ·exact .inl r
  ·subst h6
   exact .inr ⟨g, cap, cur, fp', h1, (hf g (by simp)).trans h2, h3, h4, h5, rfl, c87 h hF cur k rows 0 fp' (fun q hq => hf q (by simp [hq])) h7⟩
 | .sl false k rows, u, fp, hf, r => by
  simp only [OWc] at r ⊢
  obtain ⟨h0, A, cap, e, h1, h2, h3⟩ := r
  exact ⟨h0, A, cap, e, h1, h2, cA7 h hF e A rows 0 h3⟩
 | .al .., u, fp, hf, r => by simpa [OWc] using r
 | .bx k row, u, fp, hf, r => by
  simp only [OWc] at r ⊢
  obtain ⟨g, cur, fp', h1, h2, h3, h4, rfl, h6⟩ := r
  exact ⟨g, cur, fp', h1, (hf g (by simp)).trans h2, h3, h4, rfl, cE7 h hF cur row 0 fp' (fun q hq => hf q (by simp [hq])) h6⟩
 | .rw A cap rows, u, fp, hf, r => by
  simp only [OWc] at r ⊢
  obtain ⟨h0, h1, h2, e, h3⟩ := r
  exact ⟨h0, h1, h2, e, cA7 h hF e A rows 0 h3⟩
 | .junk, u, fp, hf, r => by simpa [OWc] using r
theorem c87 (h : ∀ k, F k → w'.heap[k]? = w.heap[k]?) (hF : ∀ k, F k → F' k) (cur : Array Value) (k : Nat) : ∀ (rows : List (List T)) (i : Nat) (fp : List Nat), (∀ k ∈ fp, w'.heap[k]? = w.heap[k]?) → at7 tb F w cur k i rows fp → at7 tb F' w' cur k i rows fp
 | [], i, fp, _, r => by simpa [at7] using r
 | r :: rs, i, fp, hf, q => by
  simp only [at7] at q ⊢
  obtain ⟨f1, f2, rfl, h1, h2, h3⟩ := q
  exact ⟨f1, f2, rfl, h1, cE7 h hF cur r _ f1 (fun q hq => hf q (by simp [hq])) h2, c87 h hF cur k rs _ f2 (fun q hq => hf q (by simp [hq])) h3⟩
theorem cE7 (h : ∀ k, F k → w'.heap[k]? = w.heap[k]?) (hF : ∀ k, F k → F' k) (cur : Array Value) : ∀ (cs : List T) (p : Nat) (fp : List Nat), (∀ k ∈ fp, w'.heap[k]? = w.heap[k]?) → ar7 tb F w cur p cs fp → ar7 tb F' w' cur p cs fp
 | [], p, fp, _, r => by simpa [ar7] using r
 | c :: cs, p, fp, hf, q => by
  simp only [ar7] at q ⊢
  obtain ⟨f1, f2, u, rfl, h1, h2, h3⟩ := q
  exact ⟨f1, f2, u, rfl, h1, ox7 h hF c u f1 (fun q hq => hf q (by simp [hq])) h2, cE7 h hF cur cs _ f2 (fun q hq => hf q (by simp [hq])) h3⟩
end
theorem kH7 (h : ∀ k, F k → w'.heap[k]? = w.heap[k]?) (hF : ∀ k, F k → F' k) {e : Ent} {fp : List Nat} (hf : ∀ k ∈ fp, w'.heap[k]? = w.heap[k]?) (r : OWe tb F w e fp) : OWe tb F' w' e fp := by
 unfold OWe at r ⊢
 split
 ·rename_i hb
  rw [hb] at r
  rcases r with r | ⟨g, es, arr, clock, h1, h2, h3, rfl, h5, h6⟩
  ·exact .inl r
  ·exact .inr ⟨g, es, arr, clock, h1, h2, h3, rfl, (hf g (by simp)).trans h5, h6⟩
 ·rename_i g hb; rw [hb] at r
  obtain ⟨cur, fp', h1, h2, h3, h4, rfl, h6⟩ := r
  exact ⟨cur, fp', (hf g (by simp)).trans h1, h2, h3, h4, rfl, c87 h hF cur e.k e.rows 0 fp' (fun q hq => hf q (by simp [hq])) h6⟩
theorem zA7 {e : Ent} {fp : List Nat} (h : OWe tb F w e fp) (hb : e.b = none) : e.cap = 0 := by
 unfold OWe at h
 rw [hb] at h
 rcases h with h | ⟨_, _, _, _, _, h, _⟩
 ·exact h.2.1
 ·exact h
theorem gP7 {e : Ent} {fp : List Nat} (h : OWe tb F w e fp) (hb : e.b = none) (hbx : e.box = false) : e.rows = [] ∧ e.cap = 0 ∧ e.box = false ∧ fp = [] := by
 unfold OWe at h
 rw [hb] at h
 rcases h with h | ⟨_, _, _, _, _, _, h, _⟩
 ·exact h
 ·rw [hbx] at h; cases h
mutual
theorem co7 (h : ∀ k, F k → w'.heap[k]? = w.heap[k]?) (hF : ∀ k, F k → F' k) : ∀ (x : AV) (u : Value), ay7 tb F w x u → ay7 tb F' w' x u
 | .v x, u, r => by simpa [ay7] using r
 | .ro rows, u, r => by
  simp only [ay7] at r ⊢
  obtain ⟨A, cap, e, h1, h2, h3⟩ := r
  exact ⟨A, cap, e, h1, h2, cA7 h hF e A rows 0 h3⟩
 | .raw A cap rows, u, r => by
  simp only [ay7] at r ⊢
  obtain ⟨h1, h2, e, h3⟩ := r
  exact ⟨h1, h2, e, cA7 h hF e A rows 0 h3⟩
 | .lref .., u, r => by simpa [ay7] using r
 | .nil, u, r => by simpa [ay7] using r
 | .ref .., u, r => by simpa [ay7] using r
 | .ptr .., u, r => by simpa [ay7] using r
 | .rptr cs, u, r => by
  simp only [ay7] at r ⊢
  obtain ⟨ad, h1, h2, h3⟩ := r
  exact ⟨ad, h1, hF _ h2, d47 h hF ad h2 cs 0 h3⟩
 | .agg cs, u, r => by
  simp only [ay7] at r ⊢
  obtain ⟨us, h1, h2⟩ := r
  exact ⟨us, h1, gu7 h hF cs us h2⟩
 | .tup cs, u, r => by
  simp only [ay7] at r ⊢
  obtain ⟨us, h1, h2⟩ := r
  exact ⟨us, h1, gu7 h hF cs us h2⟩
 | .fn f cs, u, r => by
  simp only [ay7] at r ⊢
  obtain ⟨us, h1, h2⟩ := r
  exact ⟨us, h1, gu7 h hF cs us h2⟩
 | .junk, u, r => by simp [ay7]
 | .io .., u, r => by simp [ay7] at r
 | .pio .., u, r => by simp [ay7] at r
theorem gu7 (h : ∀ k, F k → w'.heap[k]? = w.heap[k]?) (hF : ∀ k, F k → F' k) : ∀ (xs : List AV) (us : List Value), aW7 tb F w xs us → aW7 tb F' w' xs us
 | [], us, r => by simpa [aW7] using r
 | x :: xs, us, r => by
  simp only [aW7] at r ⊢
  obtain ⟨u, us', h1, h2, h3⟩ := r
  exact ⟨u, us', h1, co7 h hF x u h2, gu7 h hF xs us' h3⟩
end
structure GlOk (tb : Tab) (F : Nat → Prop) (w : World) : Prop where
 gs : ∀ g ss, (g, ss) ∈ tb.gs → F g ∧ aO7 F w ⟨g, 0, none⟩ 0 [.sl false 1 (ss.map cK7)]
 gx : ∀ g cs, (g, cs) ∈ tb.gx → F g ∧ ∃ t o, w.heap[g]? = some (.cells cs t o)
theorem GlOk.keep (h : ∀ k, F k → w'.heap[k]? = w.heap[k]?) (hF : ∀ k, F k → F' k) (r : GlOk tb F w) : GlOk tb F' w' :=
 ⟨fun g ss hm => ⟨hF _ (r.gs g ss hm).1, d47 h hF _ (r.gs g ss hm).1 _ _ (r.gs g ss hm).2⟩, fun g cs hm => by
  obtain ⟨h1, t, o, h2⟩ := r.gx g cs hm
  exact ⟨hF _ h1, t, o, (h _ h1).trans h2⟩⟩
end
end Go.Proofs.AM
