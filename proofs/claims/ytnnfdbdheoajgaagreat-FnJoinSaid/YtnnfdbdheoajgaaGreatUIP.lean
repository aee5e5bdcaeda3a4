/- Lemmas of the proof (UIP), on an abstract machine. Conditions: none. -/
import Derived.Test.YtnnfdbdheoajgaaGreatUIP0
set_option linter.unusedVariables false
set_option linter.unusedSimpArgs false
set_option maxRecDepth 10000
namespace Go.Proofs.AM
theorem v07 (code : List UInt8) : ux7 code = some true := by
 unfold ux7
 by_cases hs : (code.length : Int) > 1048576
 ·rw [if_pos (by simpa using hs)]
 rw [if_neg (by simpa using hs)]
 obtain ⟨r, n, f, t, h, hb, hn, _, ht⟩ := sk7 code
 have hwb := Qn7 hb
 have hw : ba7 r ≤ 1048576 := by omega
 have hjw := Qs7 (r := r) (n := n) (f := f) (t := t)
 have hcl : (mJH r n f t).2.1.length ≤ 100000 := by have := hjw.2; unfold wL at this; omega
 rw [h, Option.bind_some]
 simp only
 rw [tq7 hw (by omega), Option.bind_some, Option.bind_some, tr7 hw (by omega), Option.bind_some]
 simp only [uN7]
 rw [if_neg (by simp), om7 (by omega), Option.bind_some, if_neg (by simp), ts7 (by omega), Option.bind_some, if_neg (by simp), iX7 hw, Option.bind_some, Option.bind_some, iX7 hw, Option.bind_some, iX7 (by omega), Option.bind_some]
 have hsame := om7 (b := r) hw
 rcases BI7 (r := r) (n := n) (f := f) (t := t) with e | ⟨_, e⟩ | ⟨i, j, a, b, z, y, hwd, h1, h2, ⟨a1, e⟩ | ⟨a1, a2, e⟩ | ⟨a1, a2, e | ⟨hc, e⟩ | ⟨q, m, e, hf⟩⟩⟩
 ·rw [e]; rfl
 ·rw [e]; simp [hsame]
 ·rw [e]
  simp [h1.repoAt, h2.repoAt, f87 hw h1.repo h2.lt h1.lt, a1, hsame]
 ·have hq : bk7 ⟨r.commits, r.heads.set i ⟨z.name, (b : Int)⟩⟩ = true := ms7 (v := (b : Int)) h1.repo h1.get (by omega) (by have := h2.lt; omega)
  have g1 := CD7 (v := b) h1 hq rfl h2.lt
  have hab : (a : Int) ≠ (b : Int) := fun e => a1 (by rw [show a = b by omega]; exact .refl b)
  rw [e]
  simp [h1.repoAt, h2.repoAt, g1.repoAt, f87 hw h1.repo h1.lt h2.lt, a2, hab]
 ·rw [e]; simp [hsame]
 ·rw [e]
  have hlc : ((ap7 r a b).2.1.length : Int) > 0 := by
   have := List.length_pos_iff.2 hc
   omega
  simp [hsame, hlc, List.length_pos_iff, hc]
 ·have hij := Qt7 h1 h2 (fun e => a1 (e ▸ .refl a))
  have hl := hf.len
  have hqw := hf.w
  have hal := h1.lt
  have hbl := h2.lt
  have g1 := CD7 (v := m) h1 hf.repo' hf.heads hl.2.2
  have g2 := zl7 (v := m) h1 h2 hij hf.repo' hf.heads (by omega)
  have hlen := dO7 h1.repo
  obtain ⟨k, k1, k2, k3, k4⟩ := gK7 h1.repo h1.lt h2.lt
  obtain ⟨c1, e1⟩ := gp7 h1.lt
  obtain ⟨c2, e2⟩ := gp7 h2.lt
  obtain ⟨c3, e3⟩ := gp7 k2
  have hin : (inR r (a : Int) && inR r (b : Int)) = true := by unfold inR; rw [h1.repo]; simp; omega
  have hj : mSJ c3.sheet c1.sheet c2.sheet = ap7 r a b := by
   unfold ap7
   rw [if_pos hin, k1, dP7 e1, dP7 e2, dP7 e3]
  have hok := hf.ok
  have hno := hf.none
  have hjtw := Rx7 (r := r) (a := (a : Int)) (b := (b : Int))
  have m1 := (hf.anc h1.repo h1.lt h2.lt (u := a)).2 (.inr (.inl (.refl a)))
  have m2 := (hf.anc h1.repo h1.lt h2.lt (u := b)).2 (.inr (.inr (.refl b)))
  rw [e]
  simp only [uN7]
  rw [if_neg (by decide), if_pos (by decide), h1.repoAt, h2.repoAt, g1.repoAt, oj7 hw, Option.bind_some, k1, ag7, e3, Option.bind_some, ag7, e1, Option.bind_some, ag7, e2, Option.bind_some, mB7 (f77 hw e3) (f77 hw e1) (f77 hw e2), Option.bind_some, hj, if_pos hok, if_pos (by rw [hno]; rfl), if_pos (by rfl), iQ7 (by omega), Option.bind_some, if_pos hf.repo', ag7, hf.get, Option.bind_some, mf7 (by simp only; omega), Option.bind_some, if_pos (by simp), f87 (by omega) hf.repo' (by omega) hl.2.2, Option.bind_some, if_pos (by simpa using m1), f87 (by omega) hf.repo' (by omega) hl.2.2, Option.bind_some, if_pos (by simpa using m2), aN7 (by omega) (by omega), if_pos (by simp; omega), iX7 (by omega), Option.bind_some, g2.repoAt]
  simp
section
variable {o a b : List Feat}
end
section
variable {r q : am7} {n t : Str} {s : List Feat} {i k : Nat} {z : Head} {x : Commit}
theorem Added.at (h : Added r n t s i z x q k) : At q n i ⟨z.name, (k : Int)⟩ k := ⟨h.repo', h.head.1, h.head.2, h.name, rfl, eD7 h.get⟩
theorem Added.len (h : Added r n t s i z x q k) : r.commits.length ≤ q.commits.length ∧ q.commits.length ≤ r.commits.length + 1 := by
 rcases h.comm with ⟨e, _⟩ | ⟨e, _, _⟩ <;> rw [e] <;> simp
theorem Added.anc (h : Added r n t s i z x q k) {c u : Nat} (hc : c < r.commits.length) : Anc q.commits c u ↔ Anc r.commits c u := by
 rcases h.comm with ⟨e, _⟩ | ⟨e, _, _⟩
 ·rw [e]
 ·rw [e]
  exact yW7 (cV7 h.repo) hc
theorem Added.up (h : Added r n t s i z x q k) {a : Nat} (ha : z.at_ = (a : Int)) {u : Nat} (hal : a < r.commits.length) : Anc q.commits k u ↔ k = u ∨ Anc r.commits a u := by
 rw [Fw7 h.get (by simp only; rw [ha]), h.anc hal]
end
end Go.Proofs.AM
