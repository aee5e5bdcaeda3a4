/- Lemmas of the proof (M2), on an abstract machine. Conditions: none. -/
import Derived.Test.YtnnfdbdheoajgaaGreatM
set_option linter.unusedVariables false
namespace Go.Proofs.AM
theorem cf7 {α : Type} {p : α → Nat → Bool} : ∀ {l : List α} {k : Nat}, a07 p l k = true → ∀ j x, l[j]? = some x → p x (k + j) = true
 | [], k, h, j, x, hx => by simp at hx
 | y :: l, k, h, j, x, hx => by
  simp only [a07, Bool.and_eq_true] at h
  cases j with
  | zero => simp at hx; subst hx; exact h.1
  | succ j => have := cf7 h.2 j x (by simpa using hx); rwa [show k + (j + 1) = k + 1 + j by omega]
theorem jC7 {α : Type} {p : α → Nat → Bool} : ∀ {l : List α} {k : Nat}, (∀ j x, l[j]? = some x → p x (k + j) = true) → a07 p l k = true
 | [], k, h => rfl
 | y :: l, k, h => by
  simp only [a07, Bool.and_eq_true]
  exact ⟨h 0 y rfl, jC7 fun j x hx => by have := h (j + 1) x (by simpa using hx); rwa [show k + (j + 1) = k + 1 + j by omega] at this⟩
theorem zI (n : Nat) : ((n : Int) == 0) = decide (n = 0) := by
 by_cases h : n = 0
 ·subst h; rfl
 ·simp [h]
theorem Q57 (n : Nat) : decide (0 < n) = !decide (n = 0) := by by_cases h : n = 0 <;> simp [h]; omega
structure pG7 (cs : List Commit) : Prop where
 lt : ∀ (k : Nat) c, cs[k]? = some c → ∀ u ∈ c.up, 0 ≤ u ∧ u < (k : Int)
 two : ∀ c ∈ cs, c.up.length ≤ 2
theorem jD7 {cs : List Commit} (h : cO7 cs = true) {k : Nat} {c : Commit} (hc : cs[k]? = some c) : mUp c.up k = true ∧ a87 c.sheet = true ∧ bd7 c.note = true ∧ cl7 cs c = (k : Int) := by
 have := cf7 h k c hc
 simp only [Nat.zero_add, Bool.and_eq_true, decide_eq_true_eq] at this
 exact ⟨this.1, this.2.1, this.2.2.1, this.2.2.2⟩
theorem Fk7 {up : List Int} {k : Nat} (h : mUp up k = true) : (∀ u ∈ up, 0 ≤ u ∧ u < (k : Int)) ∧ up.length ≤ 2 := by
 unfold mUp at h
 simp only [Bool.and_eq_true, decide_eq_true_eq] at h
 refine ⟨fun u hu => ?_, h.2.1⟩
 obtain ⟨j, hj⟩ := List.mem_iff_getElem?.1 hu
 have := cf7 h.1 j u hj
 simpa using this
theorem Fl7 {cs : List Commit} (h : cO7 cs = true) : pG7 cs where
 lt := fun k c hc => (Fk7 (jD7 h hc).1).1
 two := fun c hc => by
  obtain ⟨k, hk⟩ := List.mem_iff_getElem?.1 hc
  exact (Fk7 (jD7 h hk).1).2
theorem cV7 {r : am7} (h : bk7 r = true) : pG7 r.commits := by
 unfold bk7 at h
 simp only [Bool.and_eq_true] at h
 exact Fl7 h.2.2.2.2.1
theorem dO7 {r : am7} (h : bk7 r = true) : (1 ≤ r.commits.length ∧ r.commits.length ≤ 14) ∧ 1 ≤ r.heads.length ∧ r.heads.length ≤ 4 := by
 unfold bk7 at h
 simp only [Bool.and_eq_true, decide_eq_true_eq] at h
 exact ⟨⟨h.1, h.2.1⟩, h.2.2.1, h.2.2.2.1⟩
theorem cn7 {α : Type} {xs : List α} {i : Int} (h : 0 ≤ i) : idx xs i = xs[i.toNat]? := by unfold idx; rw [if_pos h]
theorem gp7 {α : Type} {xs : List α} {i : Nat} (h : i < xs.length) : ∃ x, xs[i]? = some x := ⟨xs[i], List.getElem?_eq_getElem h⟩
theorem eD7 {α : Type} {xs : List α} {i : Nat} {x : α} (h : xs[i]? = some x) : i < xs.length := (List.getElem?_eq_some_iff.1 h).1
inductive Anc (cs : List Commit) : Nat → Nat → Prop where
 | refl (k : Nat) : Anc cs k k
 | up {a c : Nat} {x : Commit} {u : Int} (h : Anc cs a c) (hx : cs[c]? = some x) (hu : u ∈ x.up) : Anc cs a u.toNat
theorem Anc.trans {cs : List Commit} {a b c : Nat} (h : Anc cs a b) (h' : Anc cs b c) : Anc cs a c := by
 induction h' with
 | refl => exact h
 | up _ hx hu ih => exact .up ih hx hu
theorem Anc.le {cs : List Commit} (hc : pG7 cs) {a b : Nat} (h : Anc cs a b) : b ≤ a := by
 induction h with
 | refl => exact Nat.le_refl _
 | up _ hx hu ih => have := hc.lt _ _ hx _ hu; omega
theorem Anc.last {cs : List Commit} {a b : Nat} (h : Anc cs a b) : a = b ∨ ∃ c x u, Anc cs a c ∧ cs[c]? = some x ∧ u ∈ x.up ∧ b = u.toNat := by
 cases h with
 | refl => exact .inl rfl
 | up h hx hu => exact .inr ⟨_, _, _, h, hx, hu, rfl⟩
open Classical in
noncomputable def kU7 (cs : List Commit) (F : List Nat) : List Bool := (List.range cs.length).map fun j => decide (∃ f ∈ F, Anc cs f j)
theorem uz7 {cs : List Commit} {F : List Nat} : (kU7 cs F).length = cs.length := by simp [kU7]
theorem uA7 {cs : List Commit} {F : List Nat} {j : Nat} (h : j < cs.length) : ∃ b, (kU7 cs F)[j]? = some b ∧ (b = true ↔ ∃ f ∈ F, Anc cs f j) := by
 refine ⟨_, by unfold kU7; rw [List.getElem?_map, List.getElem?_range h]; rfl, by simp⟩
theorem Fm7 {cs : List Commit} {F : List Nat} {m : List Bool} (hl : m.length = cs.length) (h : ∀ j b, m[j]? = some b → (b = true ↔ ∃ f ∈ F, Anc cs f j)) : m = kU7 cs F := by
 refine List.ext_getElem? fun j => ?_
 rcases Nat.lt_or_ge j cs.length with hj | hj
 ·obtain ⟨b, hb, he⟩ := uA7 (F := F) hj
  obtain ⟨c, hc⟩ := gp7 (xs := m) (by omega : j < m.length)
  have := h j c hc
  rw [hb, hc]
  congr 1
  exact Bool.eq_iff_iff.2 (this.trans he.symm)
 ·rw [List.getElem?_eq_none (by omega), List.getElem?_eq_none (by rw [uz7]; omega)]
structure Marks (cs : List Commit) (F : List Nat) (k : Nat) (m : List Bool) : Prop where
 len : m.length = cs.length
 snd : ∀ j, m[j]? = some true → ∃ f ∈ F, Anc cs f j
 frm : ∀ f ∈ F, m[f]? = some true
 cl : ∀ j x u, k ≤ j → m[j]? = some true → cs[j]? = some x → u ∈ x.up → m[u.toNat]? = some true
theorem Marks.fin {cs : List Commit} {F : List Nat} {m : List Bool} (h : Marks cs F 0 m) : m = kU7 cs F := by
 refine Fm7 h.len fun j b hb => ⟨fun e => h.snd j (by rw [hb, e]), fun ⟨f, hf, ha⟩ => ?_⟩
 have key : ∀ a b, Anc cs a b → m[a]? = some true → m[b]? = some true := fun a b ha => by
  induction ha with
  | refl => exact id
  | up ha hx hu ih => exact fun h0 => h.cl _ _ _ (Nat.zero_le _) (ih h0) hx hu
 have this := key f j ha (h.frm f hf)
 rw [hb] at this
 simpa using this
theorem Marks.skip {cs : List Commit} {F : List Nat} {k : Nat} {m : List Bool} (h : Marks cs F (k + 1) m) (hm : m[k]? ≠ some true) : Marks cs F k m :=
 ⟨h.len, h.snd, h.frm, fun j x u hj hb hx hu => by
  rcases Nat.eq_or_lt_of_le hj with rfl | hj
  ·exact absurd hb hm
  ·exact h.cl j x u hj hb hx hu⟩
def dZ7 (m : List Bool) : List Int → List Bool
 | [] => m
 | u :: us => dZ7 (m.set u.toNat true) us
theorem jE7 {us : List Int} : ∀ {m : List Bool}, (dZ7 m us).length = m.length := by
 induction us with
 | nil => intro m; rfl
 | cons u us ih => intro m; simp [dZ7, ih]
theorem cG7 {us : List Int} : ∀ {m : List Bool} {j : Nat}, (dZ7 m us)[j]? = some true ↔ m[j]? = some true ∨ (j < m.length ∧ ∃ u ∈ us, u.toNat = j) := by
 induction us with
 | nil => intro m j; simp [dZ7]
 | cons u us ih =>
  intro m j
  simp only [dZ7, ih, List.length_set, List.mem_cons, exists_eq_or_imp]
  by_cases e : u.toNat = j
  ·subst e
   by_cases h : u.toNat < m.length
   ·simp [h]
   ·simp [h]
  ·simp [e]
theorem Marks.step {cs : List Commit} {F : List Nat} {k : Nat} {m : List Bool} (hc : pG7 cs) (h : Marks cs F (k + 1) m) (hm : m[k]? = some true) {x : Commit} (hx : cs[k]? = some x) : Marks cs F k (dZ7 m x.up) where
 len := by rw [jE7, h.len]
 snd := fun j hj => by
  rcases cG7.1 hj with hj | ⟨_, u, hu, rfl⟩
  ·exact h.snd j hj
  ·obtain ⟨f, hf, ha⟩ := h.snd k hm
   exact ⟨f, hf, .up ha hx hu⟩
 frm := fun f hf => cG7.2 (.inl (h.frm f hf))
 cl := fun j y u hj hb hy hu => by
  have hkl := eD7 hx
  rcases cG7.1 hb with hb' | ⟨hjl, v, hv, rfl⟩
  ·rcases Nat.eq_or_lt_of_le hj with rfl | hj
   ·rw [hx] at hy
    cases hy
    have := hc.lt _ _ hx u hu
    exact cG7.2 (.inr ⟨by rw [h.len]; omega, u, hu, rfl⟩)
   ·exact cG7.2 (.inl (h.cl j y u hj hb' hy hu))
  ·have := hc.lt _ _ hx v hv
   omega
theorem s77 {cs : List Commit} {F : List Nat} {k : Nat} {m : List Bool} (hc : pG7 cs) (h : Marks cs F cs.length m) (hF : ∀ f ∈ F, f < k) (hk : k ≤ cs.length) : Marks cs F k m :=
 ⟨h.len, h.snd, h.frm, fun j x u hj hb hx hu => by
  obtain ⟨f, hf, ha⟩ := h.snd j hb
  have := ha.le hc
  have := hF f hf
  omega⟩
def gj7 (m : List Bool) (k : Nat) : Bool := m[k]? == some true
def gq7 (p : Nat → Bool) : Nat → List Int
 | 0 => []
 | k + 1 => if p k = true then (k : Int) :: gq7 p k else gq7 p k
def Com (cs : List Commit) (a b k : Nat) : Prop := Anc cs a k ∧ Anc cs b k
def mH7 (cs : List Commit) (a b k : Nat) : Prop := Com cs a b k ∧ ∀ j, Com cs a b j → Anc cs j k → j = k
theorem jF7 {cs : List Commit} (hc : pG7 cs) {a b : Nat} : ∀ (n j : Nat), a - j ≤ n → Com cs a b j → ∃ i, mH7 cs a b i ∧ Anc cs i j := by
 intro n
 induction n with
 | zero =>
  intro j hn h
  refine ⟨j, ⟨h, fun i hi hij => ?_⟩, .refl j⟩
  have h1 := hij.le hc
  have h2 := hi.1.le hc
  omega
 | succ n ih =>
  intro j hn h
  by_cases hm : ∀ i, Com cs a b i → Anc cs i j → i = j
  ·exact ⟨j, ⟨h, hm⟩, .refl j⟩
  ·obtain ⟨i, hi⟩ : ∃ i, Com cs a b i ∧ Anc cs i j ∧ i ≠ j := by
    apply Classical.byContradiction
    intro hne
    exact hm fun i h1 h2 => Classical.byContradiction fun h3 => hne ⟨i, h1, h2, h3⟩
   have h1 := hi.2.1.le hc
   have h2 := h.1.le hc
   obtain ⟨e, he, he2⟩ := ih i (by omega) hi.1
   exact ⟨e, he, he2.trans hi.2.1⟩
theorem uB7 {cs : List Commit} (hc : pG7 cs) {a b k : Nat} (h : Com cs a b k) : (∃ j, k < j ∧ mH7 cs a b j ∧ Anc cs j k) ↔ ¬ mH7 cs a b k := by
 constructor
 ·rintro ⟨j, h1, h2, h3⟩ hb
  have := hb.2 j h2.1 h3
  omega
 ·intro hb
  obtain ⟨i, hi⟩ : ∃ i, Com cs a b i ∧ Anc cs i k ∧ i ≠ k := by
   apply Classical.byContradiction
   intro hne
   exact hb ⟨h, fun i h1 h2 => Classical.byContradiction fun h3 => hne ⟨i, h1, h2, h3⟩⟩
  obtain ⟨j, h1, h2⟩ := jF7 hc _ i (Nat.le_refl _) hi.1
  have h3 := h2.le hc
  have h4 := hi.2.1.le hc
  exact ⟨j, by omega, h1, h2.trans hi.2.1⟩
theorem yB7 {cs : List Commit} (hc : pG7 cs) {a b k : Nat} (h : Com cs a b k) : (∃ c x u, Com cs a b c ∧ cs[c]? = some x ∧ u ∈ x.up ∧ k = u.toNat) ↔ ¬ mH7 cs a b k := by
 constructor
 ·rintro ⟨c, x, u, h1, h2, h3, rfl⟩ hb
  have := hb.2 c h1 (.up (.refl c) h2 h3)
  have := hc.lt _ _ h2 _ h3
  omega
 ·intro hb
  obtain ⟨j, h1, h2, h3⟩ := (uB7 hc h).2 hb
  rcases h3.last with rfl | ⟨c, x, u, h4, h5, h6, h7⟩
  ·omega
  ·exact ⟨c, x, u, ⟨h2.1.1.trans h4, h2.1.2.trans h4⟩, h5, h6, h7⟩
open Classical in
noncomputable def of7 (cs : List Commit) (a b : Nat) : List Int := gq7 (fun k => decide (mH7 cs a b k)) cs.length
open Classical in
theorem d07 {cs : List Commit} {a k : Nat} (h : k < cs.length) : (kU7 cs [a])[k]? = some (decide (Anc cs a k)) := by
 obtain ⟨b, h1, h2⟩ := uA7 (F := [a]) h
 rw [h1]
 congr 1
 simp only [List.mem_singleton, exists_eq_left] at h2
 exact Bool.eq_iff_iff.2 (by simpa using h2)
end Go.Proofs.AM
