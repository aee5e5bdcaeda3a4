/- Lemmas of the proof (HT), on an abstract machine. Conditions: none. -/
import Derived.Test.YtnnfdbdheoajgaaGreatHS
import Derived.Test.YtnnfdbdheoajgaaGreatSF
import Derived.Test.YtnnfdbdheoajgaaGreatM
import Derived.Sort.Walk0
set_option linter.unusedVariables false
namespace Go.Proofs.AM
open Go.RowKit
variable {P : Program} {tb : Tab}
theorem lq7 (a b : Str) : slt a b = decide (a.toList < b.toList) := Go.Proofs.bytesLess_eq _ _
theorem slt_sw : Sort.SWO slt where
 irrefl x := by rw [lq7]; exact decide_eq_false (List.lt_irrefl _)
 trans x y z h1 h2 := by
  rw [lq7] at *
  exact decide_eq_true (List.lt_trans (of_decide_eq_true h1) (of_decide_eq_true h2))
 ntrans x y z h1 h2 := by
  rw [lq7] at *
  have h1 := of_decide_eq_false h1
  have h2 := of_decide_eq_false h2
  exact decide_eq_false (List.not_lt.2 (List.le_trans (List.not_lt.1 h2) (List.not_lt.1 h1)))
theorem DH7 {a b : Str} (h : a.toList = b.toList) : a = b := by
 have h2 : seq a b = true := by unfold seq; rw [h]; exact beq_self_eq_true _
 rw [bS7] at h2
 exact of_decide_eq_true h2
theorem ow7 {a b : Str} (h1 : slt a b = false) (h2 : slt b a = false) : a = b := by
 rw [lq7] at h1 h2
 have h1 := of_decide_eq_false h1
 have h2 := of_decide_eq_false h2
 exact DH7 (List.le_antisymm (List.not_lt.1 h2) (List.not_lt.1 h1))
abbrev C4 := { p : Str × Value × Value × Value // p.2.1.oneCell' = true ∧ p.2.2.1.oneCell' = true ∧ p.2.2.2.oneCell' = true }
instance : Inhabited C4 := ⟨⟨(⟨#[]⟩, .bool true, .bool true, .bool true), rfl, rfl, rfl⟩⟩
def Nn7 (c : C4) : List Value := [.string c.1.1, c.1.2.1, c.1.2.2.1, c.1.2.2.2]
theorem xv7 (a b c : Feat) : leF a b = true → leF b c = true → leF a c = true := by
 unfold leF
 simp only [Bool.not_eq_true']
 exact fun h1 h2 => slt_sw.ntrans _ _ _ h2 h1
theorem xw7 (a b : Feat) : (leF a b || leF b a) = true := by
 unfold leF
 cases h : slt b.id a.id
 ·rfl
 ·cases h2 : slt a.id b.id
  ·rfl
  ·have := slt_sw.trans _ _ _ h h2
   rw [slt_sw.irrefl] at this
   cases this
theorem xx7 {xs : List Feat} (hn : (xs.map (·.id)).Nodup) : ∀ a b, a ∈ xs → b ∈ xs → a.id = b.id → a = b := by
 induction xs with
 | nil => intro a b h; cases h
 | cons x xs ih =>
  simp only [List.map_cons, List.nodup_cons] at hn
  intro a b ha hb e
  rcases List.mem_cons.1 ha with e1 | h1
  ·rcases List.mem_cons.1 hb with e2 | h2
   ·rw [e1, e2]
   ·subst e1
    exact absurd (List.mem_map.2 ⟨b, h2, e.symm⟩) hn.1
  ·rcases List.mem_cons.1 hb with e2 | h2
   ·subst e2
    exact absurd (List.mem_map.2 ⟨a, h1, e⟩) hn.1
   ·exact ih hn.2 a b h1 h2 e
theorem Mc7 {xs ys : List Feat} (hn : (xs.map (·.id)).Nodup) (hp : ys.Perm xs) (hs : ys.Pairwise fun a b => leF a b = true) : xs.mergeSort leF = ys := by
 have h1 : (xs.mergeSort leF).Pairwise fun a b => leF a b = true := List.pairwise_mergeSort xv7 xw7 xs
 have h2 : (xs.mergeSort leF).Perm ys := (List.mergeSort_perm xs leF).trans hp.symm
 refine List.Perm.eq_of_pairwise (le := fun a b => leF a b = true) (fun a b ha hb g1 g2 => ?_) h1 hs h2
 have ha : a ∈ xs := (List.mergeSort_perm xs leF).mem_iff.1 ha
 have hb : b ∈ xs := hp.mem_iff.1 hb
 unfold leF at g1 g2
 simp only [Bool.not_eq_true'] at g1 g2
 have e := ow7 g2 g1
 exact xx7 hn a b ha hb e
theorem Fy7 (x : Feat) : (aj7 false x).all vr7 = true := rfl
theorem vs7 {F : Nat → Prop} {w : World} {x : Feat} {us : List Value} (hl : us.length = 4) (h : ∀ (c : Nat) t, (aj7 false x)[c]? = some t → ∃ u, us[c]? = some u ∧ OWc tb F w t u []) : ∃ d : C4, Nn7 d = us ∧ d.1.1 = x.id := by
 obtain ⟨u0, a0, b0⟩ := h 0 _ rfl
 obtain ⟨u1, a1, b1⟩ := h 1 _ rfl
 obtain ⟨u2, a2, b2⟩ := h 2 _ rfl
 obtain ⟨u3, a3, b3⟩ := h 3 _ rfl
 match us, hl, a0, a1, a2, a3 with
 | [v0, v1, v2, v3], _, a0, a1, a2, a3 =>
  simp at a0 a1 a2 a3
  subst a0 a1 a2 a3
  have e0 : v0 = .string x.id := by simp only [OWc] at b0; exact b0.1
  exact ⟨⟨(x.id, v1, v2, v3), ov7 rfl b1, ov7 rfl b2, ov7 rfl b3⟩, by rw [e0]; rfl, rfl⟩
theorem xy7 {F : Nat → Prop} {w : World} {cur : Array Value} {k : Nat} : ∀ {xs : List Feat} {i : Nat}, esz k = 4 → (∀ (j : Nat) r, (xs.map (aj7 false))[j]? = some r → r.length = esz k ∧ ∃ us : List Value, us.length = esz k ∧ ∀ (c : Nat) t, r[c]? = some t → ∃ u, us[c]? = some u ∧ cur[(i + j) * esz k + c]? = some u ∧ OWc tb F w t u []) → ∃ zs : List (Feat × C4), zs.map (·.1) = xs ∧ ∀ (j : Nat) z, zs[j]? = some z → z.2.1.1 = z.1.id ∧ (∀ c : Nat, c < 4 → cur[(i + j) * 4 + c]? = (Nn7 z.2)[c]?) ∧ ∀ (c : Nat) t, (aj7 false z.1)[c]? = some t → ∃ u, (Nn7 z.2)[c]? = some u ∧ OWc tb F w t u []
 | [], i, hk, h => ⟨[], rfl, fun j z hz => by simp at hz⟩
 | x :: xs, i, hk, h => by
  obtain ⟨h1, us, h2, h3⟩ := h 0 _ rfl
  rw [hk] at h2 h3
  obtain ⟨d, hd1, hd2⟩ := vs7 h2 fun c t ht => by
   obtain ⟨u, a1, a2, a3⟩ := h3 c t ht
   exact ⟨u, a1, a3⟩
  obtain ⟨zs, g1, g2⟩ := xy7 (xs := xs) (i := i + 1) hk fun j r hr => by
   have := h (j + 1) r (by simpa using hr)
   rwa [show i + (j + 1) = i + 1 + j by omega] at this
  refine ⟨(x, d) :: zs, by simp [g1], fun j z hz => ?_⟩
  cases j with
  | zero =>
   simp only [List.getElem?_cons_zero, Option.some.injEq] at hz
   subst hz
   refine ⟨hd2, fun c hc => ?_, fun c t ht => ?_⟩
   ·have hc' : c < (aj7 false x).length := hc
    obtain ⟨u, a1, a2, a3⟩ := h3 c _ (List.getElem?_eq_getElem hc')
    rw [hd1, a1]
    exact a2
   ·obtain ⟨u, a1, a2, a3⟩ := h3 c t ht
    exact ⟨u, by rw [hd1]; exact a1, a3⟩
  | succ j =>
   simp only [List.getElem?_cons_succ] at hz
   have := g2 j z hz
   rwa [show i + 1 + j = i + (j + 1) by omega] at this
end Go.Proofs.AM
