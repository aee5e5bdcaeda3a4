/- Lemmas of the proof (UTP), on an abstract machine. Conditions: none. -/
import Derived.Test.YtnnfdbdheoajgaaGreatUTD
import Derived.Test.YtnnfdbdheoajgaaGreatM2
import Derived.Test.YtnnfdbdheoajgaaGreatHT
import Derived.Test.YtnnfdbdheoajgaaGreatHN
import Derived.Test.YtnnfdbdheoajgaaGreatHV
set_option linter.unusedVariables false
set_option linter.unusedSimpArgs false
set_option maxRecDepth 10000
namespace Go.Proofs.AM
theorem fN7 {s : Str} (h : s.size ≤ 1048576) : gp7 s = some (by7 s) := by
 unfold gp7 by7
 rw [if_pos (aa7 h), if7 (gl := ff7) (p := fun (b : UInt8) _ => decide (97 ≤ b.toNat) && decide (b.toNat ≤ 122)) (xs := s.data.toList) (fun _ => rfl) (fun x l k _ => ?_) s.data.toList 0 rfl]
 ·have e1 : ((s.size : Int) ≥ 1) ↔ 1 ≤ s.size := by omega
  have e2 : ((s.size : Int) ≤ 6) ↔ s.size ≤ 6 := by omega
  cases bp7 (fun (b : UInt8) _ => decide (97 ≤ b.toNat) && decide (b.toNat ≤ 122)) s.data.toList 0
  ·rfl
  ·by_cases h1 : 1 ≤ s.size <;> simp [e1, e2, h1]
 ·have e1 : ((x.toNat : Int) < 97) ↔ ¬ 97 ≤ x.toNat := by omega
  have e2 : ((x.toNat : Int) > 122) ↔ ¬ x.toNat ≤ 122 := by omega
  simp only [ff7, e1, e2]
  by_cases h1 : 97 ≤ x.toNat <;> by_cases h2 : x.toNat ≤ 122 <;> simp [h1, h2]
theorem iG7 {s : Str} (h : s.size ≤ 1048576) : ij7 s = some (by7 s) := by
 unfold ij7 by7
 rw [if_pos (aa7 h), if7 (gl := fu7) (p := fun (b : UInt8) _ => decide (97 ≤ b.toNat) && decide (b.toNat ≤ 122)) (xs := s.data.toList) (fun _ => rfl) (fun x l k _ => ?_) s.data.toList 0 rfl]
 ·have e1 : ((s.size : Int) ≥ 1) ↔ 1 ≤ s.size := by omega
  have e2 : ((s.size : Int) ≤ 6) ↔ s.size ≤ 6 := by omega
  cases bp7 (fun (b : UInt8) _ => decide (97 ≤ b.toNat) && decide (b.toNat ≤ 122)) s.data.toList 0
  ·rfl
  ·by_cases h1 : 1 ≤ s.size <;> simp [ef7, e1, e2, h1]
 ·have e1 : ((x.toNat : Int) < 97) ↔ ¬ 97 ≤ x.toNat := by omega
  have e2 : ((x.toNat : Int) > 122) ↔ ¬ x.toNat ≤ 122 := by omega
  simp only [fu7, e1, e2]
  by_cases h1 : 97 ≤ x.toNat <;> by_cases h2 : x.toNat ≤ 122 <;> simp [h1, h2]
theorem EY7 (n : Int) : nm7 n = some (lp7 n) := by
 unfold nm7 lp7
 by_cases h : -1000 ≤ n <;> simp [h]
theorem eu7 (n a b : Int) : ef7 n a b = some (decide (a ≤ n) && decide (n ≤ b)) := by
 unfold ef7
 by_cases h : a ≤ n <;> simp [h]
theorem EZ7 {xs : List Pt} (h : xs.length ≤ 1048576) : qi7 xs = some (DG7 xs && decide (xs.length ≤ 6)) := by
 unfold qi7 DG7
 rw [if_pos (aa7 h), if7 (gl := d37 xs) (p := fun p k => lp7 p.x && (lp7 p.y && (decide (k = 0) || decide (xs[k - 1]? ≠ some p)))) (xs := xs) (fun _ => rfl) (fun x l k hd => ?_) xs 0 rfl]
 ·rw [show decide ((xs.length : Int) ≤ 6) = decide (xs.length ≤ 6) from DE7]
  exact Ma7
 ·simp only [d37, EY7, Option.bind_some, ptb, DF7]
  rcases Nat.eq_zero_or_pos k with rfl | hk
  ·cases lp7 x.x <;> cases lp7 x.y <;> simp
  ·obtain ⟨y, hy⟩ := eQ7 hd hk
   have hl := cf7 hd
   have hw := cc7 hk (by omega)
   rw [hw, ao7, hy]
   have hk' : ¬ k = 0 := by omega
   by_cases e : x = y
   ·subst e
    cases lp7 x.x <;> cases lp7 x.y <;> simp [hk, hk', hy]
   ·have e' : ¬ y = x := fun h => e h.symm
    cases lp7 x.x <;> cases lp7 x.y <;> simp [hk, hk', hy, e, e']
theorem iH7 {x : aD7} (h : x.pts.length ≤ 1048576) : jQ7 x = some (co7 x) := by
 unfold jQ7 co7
 rw [EZ7 h]
 simp only [Option.bind_some, ptb]
 have c1 : ((x.pts.length : Int) == 1) = decide (x.pts.length = 1) := by
  by_cases e : x.pts.length = 1 <;> simp [e] <;> omega
 have c2 : ((x.pts.length : Int) ≥ 2) ↔ 2 ≤ x.pts.length := by omega
 have c3 : ((x.pts.length : Int) ≥ 3) ↔ 3 ≤ x.pts.length := by omega
 cases DG7 x.pts
 ·simp
 ·by_cases hl : x.pts.length ≤ 6
  ·by_cases k1 : x.kind = 1
   ·simp [k1, hl, c1]
   ·by_cases k2 : x.kind = 2
    ·simp [k2, hl, c2]
    ·by_cases k3 : x.kind = 3
     ·by_cases h3 : 3 ≤ x.pts.length
      ·obtain ⟨p, hp⟩ : ∃ p, x.pts[0]? = some p := ⟨x.pts[0], List.getElem?_eq_getElem (by omega)⟩
       obtain ⟨q, hq⟩ : ∃ p, x.pts[x.pts.length - 1]? = some p := ⟨x.pts[x.pts.length - 1], List.getElem?_eq_getElem (by omega)⟩
       have hw := cc7 (k := x.pts.length) (by omega) (by omega)
       have e0 : idx x.pts 0 = some p := by rw [← hp]; exact ao7 (k := 0)
       have e1 : idx x.pts ((x.pts.length - 1 : Nat) : Int) = some q := by rw [← hq]; exact ao7
       rw [hw]
       simp [k3, hl, c3, h3, e0, e1, hp, hq]
      ·simp [k3, hl, c3, h3]
     ·simp [k1, k2, k3, hl]
  ·simp [hl]
theorem LK7 (p : Pt) : qD7 p = some (lp7 p.x && lp7 p.y) := by
 unfold qD7 lp7
 rw [eu7, eu7]
 simp only [Option.bind_some]
 cases (decide (-1000 ≤ p.x) && decide (p.x ≤ 1000)) <;> simp
theorem rw7 {x : aD7} (h : x.pts.length ≤ 1048576) : lz7 x = some (co7 x) := by
 unfold lz7 co7
 have c1 : ((x.pts.length : Int) == 1) = decide (x.pts.length = 1) := by
  by_cases e : x.pts.length = 1 <;> simp [e] <;> omega
 have c2 : ((2 : Int) ≤ (x.pts.length : Int)) ↔ 2 ≤ x.pts.length := by omega
 have c3 : ((3 : Int) ≤ (x.pts.length : Int)) ↔ 3 ≤ x.pts.length := by omega
 have c6 : ((x.pts.length : Int) ≤ 6) ↔ x.pts.length ≤ 6 := by omega
 rw [if_pos (aa7 h), if7 (gl := eg7 x) (p := fun p k => lp7 p.x && (lp7 p.y && (decide (k = 0) || decide (x.pts[k - 1]? ≠ some p)))) (xs := x.pts) (fun _ => rfl) (fun y l k hd => ?_) x.pts 0 rfl]
 ·show _ = some (DG7 x.pts && _)
  have hm : bp7 (fun (p : Pt) k => lp7 p.x && (lp7 p.y && (decide (k = 0) || decide (x.pts[k - 1]? ≠ some p)))) x.pts 0 = DG7 x.pts := rfl
  rw [hm]
  cases DG7 x.pts
  ·rfl
  ·simp only [if_true, Option.bind_some, ptb, eu7]
   by_cases k1 : x.kind = 1
   ·by_cases e : x.pts.length = 1 <;> simp [k1, c1, e]
   ·by_cases k2 : x.kind = 2
    ·by_cases e : x.pts.length ≤ 6 <;> simp [k2, c2, c6, e]
    ·by_cases k3 : x.kind = 3
     ·by_cases h3 : 3 ≤ x.pts.length
      ·obtain ⟨p, hp⟩ : ∃ p, x.pts[0]? = some p := ⟨x.pts[0], List.getElem?_eq_getElem (by omega)⟩
       obtain ⟨q, hq⟩ : ∃ p, x.pts[x.pts.length - 1]? = some p := ⟨x.pts[x.pts.length - 1], List.getElem?_eq_getElem (by omega)⟩
       have hw := cc7 (k := x.pts.length) (by omega) (by omega)
       have e0 : idx x.pts 0 = some p := by rw [← hp]; exact ao7 (k := 0)
       have e1 : idx x.pts ((x.pts.length - 1 : Nat) : Int) = some q := by rw [← hq]; exact ao7
       rw [hw]
       by_cases e : x.pts.length ≤ 6 <;> simp [k3, c3, c6, h3, e0, e1, hp, hq, e]
      ·simp [k3, c3, c6, h3]
     ·simp [k1, k2, k3]
 ·simp only [eg7, LK7, Option.bind_some, ptb, DF7]
  rcases Nat.eq_zero_or_pos k with rfl | hk
  ·cases lp7 y.x <;> cases lp7 y.y <;> simp
  ·obtain ⟨z, hz⟩ := eQ7 hd hk
   have hl := cf7 hd
   have hw := cc7 hk (by omega)
   rw [hw, ao7, hz]
   have hk' : ¬ k = 0 := by omega
   by_cases e : z = y <;> cases lp7 y.x <;> cases lp7 y.y <;> simp [hk, hk', hz, e]
theorem AL7 {ts : List Tag} (h : wL sr7 ts ≤ 1048576) : qk7 ts = some (j77 ts && decide (ts.length ≤ 4)) := by
 have hlen : ts.length ≤ 1048576 := by unfold wL at h; omega
 unfold qk7 j77
 rw [if_pos (aa7 hlen), if7 (gl := d47 ts) (p := fun t k => by7 t.key && (by7 t.val && (decide (k = 0) || ig7 Tag.key ts t k))) (xs := ts) (fun _ => rfl) (fun x l k hd => ?_) ts 0 rfl]
 ·rw [show decide ((ts.length : Int) ≤ 4) = decide (ts.length ≤ 4) from DE7]
  exact Ma7
 ·have hx : x ∈ ts := List.mem_of_getElem? (cq7 hd)
  have hs := bR7 (w := sr7) hx
  unfold wL at h
  have hk1 : x.key.size ≤ 1048576 := by have e0 : sr7 x = x.key.size + (x.val.size + 0) := rfl; omega
  have hk2 : x.val.size ≤ 1048576 := by have e0 : sr7 x = x.key.size + (x.val.size + 0) := rfl; omega
  simp only [d47, fN7 hk1, fN7 hk2, Option.bind_some, DF7, ss7]
  rcases Nat.eq_zero_or_pos k with rfl | hk
  ·cases by7 x.key <;> cases by7 x.val <;> simp
  ·obtain ⟨z, hz⟩ := eQ7 hd hk
   have hl := cf7 hd
   have hw := cc7 hk (by omega)
   rw [hw, ao7, hz]
   have hk' : ¬ k = 0 := by omega
   cases e : slt z.key x.key <;> cases by7 x.key <;> cases by7 x.val <;> simp [hk, hk', hz, e, ig7]
theorem ug7 {f : Feat} (h : aZ7 f ≤ 1048576) : ls7 f = some (bj7 f) := by
 unfold aZ7 g77 at h
 have h1 : f.id.size ≤ 1048576 := by omega
 have h2 : f.shape.pts.length ≤ 1048576 := by unfold wL at h; omega
 unfold ls7 bj7
 rw [fN7 h1, iH7 h2, AL7 (by omega)]
 simp only [Option.bind_some]
 cases by7 f.id <;> cases co7 f.shape <;> simp
theorem iI7 {f : Feat} (h : aZ7 f ≤ 1048576) : ha7 f = some (bj7 f) := by
 unfold aZ7 g77 at h
 have h1 : f.id.size ≤ 1048576 := by omega
 have h2 : f.shape.pts.length ≤ 1048576 := by unfold wL at h; omega
 have h3 : wL sr7 f.tags ≤ 1048576 := by omega
 have hlen : f.tags.length ≤ 1048576 := by unfold wL at h3; omega
 unfold ha7 bj7
 rw [if_pos (aa7 hlen), if7 (gl := eh7 f) (p := fun t k => by7 t.key && (by7 t.val && (decide (k = 0) || ig7 Tag.key f.tags t k))) (xs := f.tags) (fun _ => rfl) (fun x l k hd => ?_) f.tags 0 rfl]
 ·have hm : bp7 (fun (t : Tag) k => by7 t.key && (by7 t.val && (decide (k = 0) || ig7 Tag.key f.tags t k))) f.tags 0 = j77 f.tags := rfl
  rw [hm, iG7 h1, rw7 h2]
  rw [show decide ((f.tags.length : Int) ≤ 4) = decide (f.tags.length ≤ 4) from DE7]
  cases j77 f.tags <;> cases by7 f.id <;> cases co7 f.shape <;> simp
 ·have hx : x ∈ f.tags := List.mem_of_getElem? (cq7 hd)
  have hs := bR7 (w := sr7) hx
  unfold wL at h3
  have hk1 : x.key.size ≤ 1048576 := by have e0 : sr7 x = x.key.size + (x.val.size + 0) := rfl; omega
  have hk2 : x.val.size ≤ 1048576 := by have e0 : sr7 x = x.key.size + (x.val.size + 0) := rfl; omega
  simp only [eh7, iG7 hk1, iG7 hk2, Option.bind_some, DF7]
  rcases Nat.eq_zero_or_pos k with rfl | hk
  ·cases by7 x.key <;> cases by7 x.val <;> simp
  ·obtain ⟨z, hz⟩ := eQ7 hd hk
   have hl := cf7 hd
   have hw := cc7 hk (by omega)
   rw [hw, ao7, hz]
   have hk' : ¬ k = 0 := by omega
   cases e : slt z.key x.key <;> cases by7 x.key <;> cases by7 x.val <;> simp [hk, hk', hz, e, ig7]
theorem eW7 {fs : List Feat} (h : wL aZ7 fs ≤ 1048576) : g87 fs = some (aN7 fs) := by
 have hlen : fs.length ≤ 1048576 := by unfold wL at h; omega
 unfold g87 aN7
 rw [if_pos (aa7 hlen), if7 (gl := d57 fs) (p := fun f k => bj7 f && (decide (k = 0) || ig7 Feat.id fs f k)) (xs := fs) (fun _ => rfl) (fun x l k hd => ?_) fs 0 rfl]
 ·rw [show decide ((fs.length : Int) ≤ 8) = decide (fs.length ≤ 8) from DE7]
  exact Ma7
 ·have hx : x ∈ fs := List.mem_of_getElem? (cq7 hd)
  have hs := bR7 (w := aZ7) hx
  unfold wL at h
  simp only [d57, ug7 (f := x) (by omega), Option.bind_some, DF7, ss7]
  rcases Nat.eq_zero_or_pos k with rfl | hk
  ·cases bj7 x <;> simp
  ·obtain ⟨z, hz⟩ := eQ7 hd hk
   have hl := cf7 hd
   have hw := cc7 hk (by omega)
   rw [hw, ao7, hz]
   have hk' : ¬ k = 0 := by omega
   cases e : slt z.id x.id <;> cases bj7 x <;> simp [hk, hk', hz, e, ig7]
theorem gz7 {fs : List Feat} (h : wL aZ7 fs ≤ 1048576) : ik7 fs = some (aN7 fs) := by
 have hlen : fs.length ≤ 1048576 := by unfold wL at h; omega
 unfold ik7 aN7
 rw [if_pos (aa7 hlen), if7 (gl := ei7 fs) (p := fun f k => bj7 f && (decide (k = 0) || ig7 Feat.id fs f k)) (xs := fs) (fun _ => rfl) (fun x l k hd => ?_) fs 0 rfl]
 ·rw [show decide ((fs.length : Int) ≤ 8) = decide (fs.length ≤ 8) from DE7]
  exact Ma7
 ·have hx : x ∈ fs := List.mem_of_getElem? (cq7 hd)
  have hs := bR7 (w := aZ7) hx
  unfold wL at h
  simp only [ei7, iI7 (f := x) (by omega), Option.bind_some, DF7, ss7]
  rcases Nat.eq_zero_or_pos k with rfl | hk
  ·cases bj7 x <;> simp
  ·obtain ⟨z, hz⟩ := eQ7 hd hk
   have hl := cf7 hd
   have hw := cc7 hk (by omega)
   rw [hw, ao7, hz]
   have hk' : ¬ k = 0 := by omega
   cases e : slt z.id x.id <;> cases bj7 x <;> simp [hk, hk', hz, e, ig7]
theorem kx7 {a b : List Pt} (h : a.length ≤ 1048576) : lt7 a b = some (decide (a = b)) := dx7 (gl := fg7) (ok := fun _ => True) (fun _ _ => rfl) (fun a x l k y _ hy => by
 simp only [fg7, ao7, hy, Option.bind_some, ptb]
 by_cases e : x = y <;> simp [e]) (fun _ _ => rfl) h (fun _ _ => trivial)
theorem uh7 {a b : List Pt} (h : a.length ≤ 1048576) : eT7 a b = some (decide (a = b)) := dx7 (gl := fv7) (ok := fun _ => True) (fun _ _ => rfl) (fun a x l k y _ hy => by
 simp only [fv7, ao7, hy, Option.bind_some, ptb]
 by_cases e : x = y <;> simp [e]) (fun _ _ => rfl) h (fun _ _ => trivial)
theorem AM7 {a b : List Tag} (h : a.length ≤ 1048576) : tV7 a b = some (decide (a = b)) := dx7 (gl := fh7) (ok := fun _ => True) (fun _ _ => rfl) (fun a x l k y _ hy => by
 simp only [fh7, ao7, hy, Option.bind_some, Qh7]
 by_cases e : x = y <;> simp [e]) (fun _ _ => rfl) h (fun _ _ => trivial)
theorem E07 {a b : List Tag} (h : a.length ≤ 1048576) : tZ7 a b = some (decide (a = b)) := dx7 (gl := fw7) (ok := fun _ => True) (fun _ _ => rfl) (fun a x l k y _ hy => by
 simp only [fw7, ao7, hy, Option.bind_some, Qh7]
 by_cases e : x = y <;> simp [e]) (fun _ _ => rfl) h (fun _ _ => trivial)
theorem AN7 {a b : List Int} (h : a.length ≤ 1048576) : tW7 a b = some (decide (a = b)) := dx7 (gl := fi7) (ok := fun _ => True) (fun _ _ => rfl) (fun a x l k y _ hy => by
 simp only [fi7, ao7, hy, Option.bind_some]
 by_cases e : x = y <;> simp [e]) (fun _ _ => rfl) h (fun _ _ => trivial)
theorem E17 {a b : List Int} (h : a.length ≤ 1048576) : t17 a b = some (decide (a = b)) := dx7 (gl := fy7) (ok := fun _ => True) (fun _ _ => rfl) (fun a x l k y _ hy => by
 simp only [fy7, ao7, hy, Option.bind_some]
 by_cases e : x = y <;> simp [e]) (fun _ _ => rfl) h (fun _ _ => trivial)
theorem fO7 {a b : aD7} (h : a.pts.length ≤ 1048576) : jR7 a b = some (decide (a = b)) := by
 unfold jR7
 rw [kx7 h]
 obtain ⟨k, p⟩ := a; obtain ⟨k2, p2⟩ := b
 by_cases h1 : k = k2 <;> by_cases h2 : p = p2 <;> simp [h1, h2]
theorem gU7 {a b : Feat} (h : aZ7 a ≤ 1048576) : fU7 a b = some (decide (a = b)) := by
 unfold aZ7 g77 wL at h
 unfold fU7
 rw [fO7 (by omega), AM7 (by omega), bS7]
 obtain ⟨i, s, t⟩ := a; obtain ⟨i2, s2, t2⟩ := b
 by_cases h1 : i = i2 <;> by_cases h2 : s = s2 <;> by_cases h3 : t = t2 <;> simp [h1, h2, h3]
theorem fP7 {a b : aD7} (h : a.pts.length ≤ 1048576) : jU7 a b = some (decide (a = b)) := by
 unfold jU7
 rw [uh7 h]
 obtain ⟨k, p⟩ := a; obtain ⟨k2, p2⟩ := b
 by_cases h1 : k = k2 <;> by_cases h2 : p = p2 <;> simp [h1, h2]
theorem nK7 {a b : Feat} (h : aZ7 a ≤ 1048576) : ny7 a b = some (decide (a = b)) := by
 unfold aZ7 g77 wL at h
 unfold ny7
 rw [fP7 (by omega), E07 (by omega), bS7]
 obtain ⟨i, s, t⟩ := a; obtain ⟨i2, s2, t2⟩ := b
 by_cases h1 : i = i2 <;> by_cases h2 : s = s2 <;> by_cases h3 : t = t2 <;> simp [h1, h2, h3]
theorem sK7 {a b : List Feat} (h : wL aZ7 a ≤ 1048576) : tX7 a b = some (decide (a = b)) := dx7 (gl := fj7) (ok := fun x => aZ7 x ≤ 1048576) (fun _ _ => rfl) (fun a x l k y hx hy => by
 simp only [fj7, ao7, hy, Option.bind_some, gU7 hx]
 by_cases e : x = y <;> simp [e]) (fun _ _ => rfl) (by unfold wL at h; omega) (fun x hx => by have := bR7 (w := aZ7) hx; unfold wL at h; omega)
theorem AO7 {a b : List Feat} (h : wL aZ7 a ≤ 1048576) : t07 a b = some (decide (a = b)) := dx7 (gl := fx7) (ok := fun x => aZ7 x ≤ 1048576) (fun _ _ => rfl) (fun a x l k y hx hy => by
 simp only [fx7, ao7, hy, Option.bind_some, nK7 hx]
 by_cases e : x = y <;> simp [e]) (fun _ _ => rfl) (by unfold wL at h; omega) (fun x hx => by have := bR7 (w := aZ7) hx; unfold wL at h; omega)
theorem fQ7 {a b : List Feat} (h : wL aZ7 a ≤ 1048576) : hb7 a b = some (decide (a = b)) := by
 unfold hb7
 rw [AO7 h]
 rfl
theorem rx7 {a b : Commit} (h : aX7 a ≤ 1048576) : ql7 a b = some (decide (a = b)) := by
 unfold aX7 at h
 unfold ql7
 rw [AN7 (by unfold wL at h; omega), sK7 (by omega), bS7]
 obtain ⟨i, s, t⟩ := a; obtain ⟨i2, s2, t2⟩ := b
 by_cases h1 : i = i2 <;> by_cases h2 : s = s2 <;> by_cases h3 : t = t2 <;> simp [h1, h2, h3]
theorem ry7 {a b : Commit} (h : aX7 a ≤ 1048576) : qE7 a b = some (decide (a = b)) := by
 unfold aX7 at h
 unfold qE7
 rw [E17 (by unfold wL at h; omega), fQ7 (by omega), bS7]
 obtain ⟨i, s, t⟩ := a; obtain ⟨i2, s2, t2⟩ := b
 by_cases h1 : i = i2 <;> by_cases h2 : s = s2 <;> by_cases h3 : t = t2 <;> simp [h1, h2, h3]
theorem ui7 {r : aF7} {c : Commit} (h : wL aX7 r.commits ≤ 1048576) : nn7 r c = some (gn7 r.commits c) := by
 unfold nn7 gn7
 rw [if_pos (aa7 (by unfold wL at h; omega))]
 exact mr7 (gl := fl7 c) (ok := fun x => aX7 x ≤ 1048576) (fun _ => rfl) (fun x l k hx => by simp only [fl7, rx7 hx, Option.bind_some]) _ 0 fun x hx => by have := bR7 (w := aX7) hx; unfold wL at h; omega
theorem oU7 {r : aF7} {c : Commit} (h : wL aX7 r.commits ≤ 1048576) : qH7 r c = some (gn7 r.commits c) := by
 have key : qG7 r.commits c = some (gn7 r.commits c) := by
  unfold qG7 gn7
  rw [if_pos (aa7 (by unfold wL at h; omega))]
  exact mr7 (gl := fA7 c) (ok := fun x => aX7 x ≤ 1048576) (fun _ => rfl) (fun x l k hx => by simp only [fA7, t27, ry7 hx, Option.bind_some]) _ 0 fun x hx => by have := bR7 (w := aX7) hx; unfold wL at h; omega
 unfold qH7
 rw [key]
 rfl
theorem ky7 {r : aF7} {n : Str} (h : r.heads.length ≤ 1048576) : jS7 r n = some (bT7 r.heads n) := by
 unfold jS7 bT7
 rw [if_pos (aa7 h)]
 exact mr7 (gl := fm7 n) (ok := fun _ => True) (fun _ => rfl) (fun x l k _ => by simp only [fm7, bS7]) _ 0 fun _ _ => trivial
theorem sL7 {r : aF7} {n : Str} (h : r.heads.length ≤ 1048576) : qJ7 r n = some (bT7 r.heads n) := by
 have key : qI7 r.heads n = some (bT7 r.heads n) := by
  unfold qI7 bT7
  rw [if_pos (aa7 h)]
  exact mr7 (gl := fB7 n) (ok := fun _ => True) (fun _ => rfl) (fun x l k _ => by simp only [fB7, t37, bS7, Option.bind_some]) _ 0 fun _ _ => trivial
 unfold qJ7
 rw [key]
 rfl
theorem LL7 {up : List Int} {k : Nat} (h : up.length ≤ 1048576) : qm7 up (k : Int) = some (mUp up k) := by
 unfold qm7 mUp
 rw [if_pos (aa7 h), if7 (gl := fk7 (k : Int)) (p := fun (x : Int) _ => decide (0 ≤ x) && decide (x < (k : Int))) (xs := up) (fun _ => rfl) (fun x l j _ => ?_) up 0 rfl]
 ·generalize bp7 (fun (x : Int) _ => decide (0 ≤ x) && decide (x < (k : Int))) up 0 = A
  cases A
  ·rfl
  ·have e1 : decide ((k : Int) > 0) = decide (0 < k) := DF7
   match up with
   | [] => cases e : decide (0 < k) <;> simp [e1, e]
   | [a] => cases e : decide (0 < k) <;> simp [e1, e]
   | [a, b] =>
    have i0 : idx [a, b] 0 = some a := rfl
    have i1 : idx [a, b] 1 = some b := rfl
    by_cases e2 : a = b
    ·subst e2
     cases e : decide (0 < k) <;> simp [e1, e, i0, i1]
    ·cases e : decide (0 < k) <;> simp [e1, e, i0, i1, e2]
   | a :: b :: c :: l =>
    have e2 : ¬ ((l.length : Int) + 1 + 1 + 1 ≤ 2) := by omega
    simp [e2]
 ·have e1 : (x ≥ (k : Int)) ↔ ¬ x < (k : Int) := by omega
  have e2 : (x < 0) ↔ ¬ 0 ≤ x := by omega
  simp only [fk7, e1, e2]
  by_cases h1 : 0 ≤ x <;> by_cases h2 : x < (k : Int) <;> simp [h1, h2]
theorem uj7 {r : aF7} (h : cj7 r ≤ 1048576) : nq7 r = some (cT7 r) := by
 unfold cj7 at h
 have hc : wL aX7 r.commits ≤ 1048576 := by omega
 have hh : wL j67 r.heads ≤ 1048576 := by omega
 have hcl : r.commits.length ≤ 1048576 := by unfold wL at hc; omega
 have hhl : r.heads.length ≤ 1048576 := by unfold wL at hh; omega
 have c1 : ((r.commits.length : Int) < 1) ↔ ¬ 1 ≤ r.commits.length := by omega
 have c2 : ((r.commits.length : Int) > 14) ↔ ¬ r.commits.length ≤ 14 := by omega
 have c3 : ((r.heads.length : Int) < 1) ↔ ¬ 1 ≤ r.heads.length := by omega
 have c4 : ((r.heads.length : Int) > 4) ↔ ¬ r.heads.length ≤ 4 := by omega
 have k1 : d67 r r.commits 0 = some (if dy7 r.commits = true then .inr () else .inl false) := by
  refine if7 (gl := d67 r) (p := fun c k => mUp c.up k && (aN7 c.sheet && (by7 c.note && decide (gn7 r.commits c = (k : Int))))) (xs := r.commits) (fun _ => rfl) (fun x l k hd => ?_) r.commits 0 rfl
  have hx : x ∈ r.commits := List.mem_of_getElem? (cq7 hd)
  have hs := bR7 (w := aX7) hx
  have e0 : aX7 x = wL w0 x.up + (wL aZ7 x.sheet + (x.note.size + 0)) := rfl
  have hs' : aX7 x ≤ 1048576 := by unfold wL at hc; omega
  have hu : x.up.length ≤ 1048576 := by have : wL w0 x.up = x.up.length + ie7 w0 x.up := rfl; omega
  simp only [d67, LL7 hu, eW7 (fs := x.sheet) (by omega), fN7 (s := x.note) (by omega), ui7 hc, Option.bind_some]
  by_cases e : gn7 r.commits x = (k : Int) <;> cases mUp x.up k <;> cases aN7 x.sheet <;> cases by7 x.note <;> simp [e]
 have k2 : d77 r r.heads 0 = some (if qb7 r.commits.length r.heads = true then .inr () else .inl false) := by
  refine if7 (gl := d77 r) (p := fun h k => by7 h.name && (decide (bT7 r.heads h.name = (k : Int)) && (decide (0 ≤ h.at_) && decide (h.at_ < (r.commits.length : Int))))) (xs := r.heads) (fun _ => rfl) (fun x l k hd => ?_) r.heads 0 rfl
  have hx : x ∈ r.heads := List.mem_of_getElem? (cq7 hd)
  have hs := bR7 (w := j67) hx
  have e0 : j67 x = x.name.size + 0 := rfl
  have hs' : x.name.size ≤ 1048576 := by unfold wL at hh; omega
  have d1 : (x.at_ < 0) ↔ ¬ 0 ≤ x.at_ := by omega
  have d2 : (x.at_ ≥ (r.commits.length : Int)) ↔ ¬ x.at_ < (r.commits.length : Int) := by omega
  simp only [d77, fN7 hs', ky7 hhl, Option.bind_some, d1, d2]
  by_cases e : bT7 r.heads x.name = (k : Int) <;> by_cases e1 : 0 ≤ x.at_ <;> by_cases e2 : x.at_ < (r.commits.length : Int) <;> cases by7 x.name <;> simp [e, e1, e2]
 unfold nq7 cT7
 rw [k1, k2, if_pos (aa7 hcl), if_pos (aa7 hhl)]
 simp only [c1, c2, c3, c4]
 by_cases h1 : 1 ≤ r.commits.length <;> by_cases h2 : r.commits.length ≤ 14 <;> by_cases h3 : 1 ≤ r.heads.length <;> by_cases h4 : r.heads.length ≤ 4 <;> cases dy7 r.commits <;> cases qb7 r.commits.length r.heads <;> simp [h1, h2, h3, h4]
theorem gA7 {r : aF7} {k : Int} (h : r.commits.length ≤ 1048576) : il7 r k = some (decide (0 ≤ k) && decide (k < (r.commits.length : Int))) := by
 unfold il7
 rw [aM7 (by omega) (by omega), eu7]
 have e : (k ≤ (r.commits.length : Int) - 1) ↔ k < (r.commits.length : Int) := by omega
 simp [e]
theorem lT7 (x : Int) : lA7 [] x = some false := rfl
theorem sM7 (a x : Int) : lA7 [a] x = some (decide (x = a)) := by
 have hf : aH7 1 = true := aa7 (by omega)
 by_cases e : x = a
 ·subst e
  simp [lA7, qF7, hf, fz7]
 ·simp [lA7, qF7, hf, fz7, e]
theorem PG7 {c : Commit} {k : Nat} (hk : k ≤ 1048576) (h : c.up.length ≤ 2) : ej7 k c c.up 0 = some (if (bp7 (fun (x : Int) _ => decide (0 ≤ x) && decide (x < (k : Int))) c.up 0 && decide (c.up[0]? = none ∨ c.up[0]? ≠ c.up[1]?)) = true then .inr () else .inl false) := by
 have hw : IntKind.i64.wrap ((k : Int) - 1) = (k : Int) - 1 := aM7 (by omega) (by omega)
 have hi : ∀ x : Int, (x ≤ (k : Int) - 1) ↔ x < (k : Int) := fun x => by omega
 obtain ⟨up, sh, nt⟩ := c
 match up, h with
 | [], _ => rfl
 | [a], _ =>
  have s0 : slc [a] 0 ((0 : Nat) : Int) = some [] := by simp [slc]
  simp only [ej7, eu7, hw, hi, Option.bind_some, s0, lT7, bp7]
  by_cases h1 : 0 ≤ a <;> by_cases h2 : a < (k : Int) <;> simp [h1, h2]
 | [a, b], _ =>
  have s0 : slc [a, b] 0 ((0 : Nat) : Int) = some [] := by simp [slc]
  have s1 : slc [a, b] 0 ((0 + 1 : Nat) : Int) = some [a] := by simp [slc]
  simp only [ej7, eu7, hw, hi, Option.bind_some, s0, s1, lT7, sM7, bp7]
  by_cases e : b = a
  ·subst e
   by_cases h1 : 0 ≤ b <;> by_cases h2 : b < (k : Int) <;> simp [h1, h2]
  ·have e' : ¬ a = b := fun h => e h.symm
   by_cases h1 : 0 ≤ a <;> by_cases h2 : a < (k : Int) <;> by_cases h3 : 0 ≤ b <;> by_cases h4 : b < (k : Int) <;> simp [h1, h2, h3, h4, e, e']
 | _ :: _ :: _ :: _, h => simp at h
theorem uk7 {r : aF7} (h : cj7 r ≤ 1048576) : nz7 r = some (cT7 r) := by
 unfold cj7 at h
 have hc : wL aX7 r.commits ≤ 1048576 := by omega
 have hh : wL j67 r.heads ≤ 1048576 := by omega
 have hcl : r.commits.length ≤ 1048576 := by unfold wL at hc; omega
 have hhl : r.heads.length ≤ 1048576 := by unfold wL at hh; omega
 have c1 : ((1 : Int) ≤ r.commits.length) ↔ 1 ≤ r.commits.length := by omega
 have c2 : ((r.commits.length : Int) ≤ 14) ↔ r.commits.length ≤ 14 := by omega
 have c3 : ((1 : Int) ≤ r.heads.length) ↔ 1 ≤ r.heads.length := by omega
 have c4 : ((r.heads.length : Int) ≤ 4) ↔ r.heads.length ≤ 4 := by omega
 have k1 : ek7 r r.commits 0 = some (if dy7 r.commits = true then .inr () else .inl false) := by
  refine if7 (gl := ek7 r) (p := fun c k => mUp c.up k && (aN7 c.sheet && (by7 c.note && decide (gn7 r.commits c = (k : Int))))) (xs := r.commits) (fun _ => rfl) (fun x l k hd => ?_) r.commits 0 rfl
  have hx : x ∈ r.commits := List.mem_of_getElem? (cq7 hd)
  have hkl := cf7 hd
  have hs := bR7 (w := aX7) hx
  have e0 : aX7 x = wL w0 x.up + (wL aZ7 x.sheet + (x.note.size + 0)) := rfl
  have hs' : aX7 x ≤ 1048576 := by unfold wL at hc; omega
  have hu : x.up.length ≤ 1048576 := by have : wL w0 x.up = x.up.length + ie7 w0 x.up := rfl; omega
  have d1 : (((k : Int) == 0) == ((x.up.length : Int) == 0)) = (decide (0 < x.up.length) == decide (0 < k)) := by
   rw [zI, zI, Qq7, Qq7]
   cases decide (k = 0) <;> cases decide (x.up.length = 0) <;> rfl
  have d2 : ((x.up.length : Int) > 2) ↔ ¬ x.up.length ≤ 2 := by omega
  obtain ⟨B, hB⟩ : ∃ B, (decide (0 < x.up.length) == decide (0 < k)) = B := ⟨_, rfl⟩
  rw [hB] at d1
  simp only [ek7, gz7 (fs := x.sheet) (by omega), iG7 (s := x.note) (by omega), oU7 hc, Option.bind_some, d1, d2, mUp, hB]
  clear d1 hB
  by_cases b : x.up.length ≤ 2
  ·rw [PG7 (by omega) b, if_pos (aa7 hu)]
   obtain ⟨D, hD⟩ : ∃ D, (decide (x.up[0]? = none ∨ x.up[0]? ≠ x.up[1]?)) = D := ⟨_, rfl⟩
   rw [hD]
   clear hD
   by_cases e : gn7 r.commits x = (k : Int) <;> cases B <;> cases aN7 x.sheet <;> cases by7 x.note <;> cases bp7 (fun (x : Int) _ => decide (0 ≤ x) && decide (x < (k : Int))) x.up 0 <;> cases D <;> simp [e, b]
  ·by_cases e : gn7 r.commits x = (k : Int) <;> cases B <;> cases aN7 x.sheet <;> cases by7 x.note <;> simp [e, b]
 have k2 : el7 r r.heads 0 = some (if qb7 r.commits.length r.heads = true then .inr () else .inl false) := by
  refine if7 (gl := el7 r) (p := fun h k => by7 h.name && (decide (bT7 r.heads h.name = (k : Int)) && (decide (0 ≤ h.at_) && decide (h.at_ < (r.commits.length : Int))))) (xs := r.heads) (fun _ => rfl) (fun x l k hd => ?_) r.heads 0 rfl
  have hx : x ∈ r.heads := List.mem_of_getElem? (cq7 hd)
  have hs := bR7 (w := j67) hx
  have e0 : j67 x = x.name.size + 0 := rfl
  have hs' : x.name.size ≤ 1048576 := by unfold wL at hh; omega
  simp only [el7, iG7 hs', sL7 hhl, gA7 hcl, Option.bind_some]
  by_cases e : bT7 r.heads x.name = (k : Int) <;> by_cases e1 : 0 ≤ x.at_ <;> by_cases e2 : x.at_ < (r.commits.length : Int) <;> cases by7 x.name <;> simp [e, e1, e2]
 unfold nz7 cT7
 rw [k1, k2, if_pos (aa7 hcl), if_pos (aa7 hhl), eu7, eu7]
 simp only [c1, c2, c3, c4, Option.bind_some]
 by_cases h1 : 1 ≤ r.commits.length <;> by_cases h2 : r.commits.length ≤ 14 <;> by_cases h3 : 1 ≤ r.heads.length <;> by_cases h4 : r.heads.length ≤ 4 <;> cases dy7 r.commits <;> cases qb7 r.commits.length r.heads <;> simp [h1, h2, h3, h4]
theorem Ca7 {r : aF7} {k : Int} (h : cj7 r ≤ 1048576) : nr7 r k = some (cT7 r && (decide (0 ≤ k) && decide (k < (r.commits.length : Int)))) := by
 unfold nr7
 rw [uj7 h]
 by_cases h1 : 0 ≤ k <;> cases cT7 r <;> simp [h1]
theorem yf7 {n j : Nat} : (List.replicate n false)[j]? ≠ some true := by
 rw [List.getElem?_replicate]
 split <;> simp
theorem nL7 {cs : List Commit} {F : List Nat} (hF : ∀ f ∈ F, f < cs.length) : Marks cs F cs.length (dU7 (List.replicate cs.length false) (F.map fun (f : Nat) => (f : Int))) where
 len := by rw [jm7, List.length_replicate]
 snd := fun j hj => by
  rcases cG7.1 hj with hj | ⟨_, u, hu, rfl⟩
  ·exact absurd hj yf7
  ·obtain ⟨f, hf, rfl⟩ := List.mem_map.1 hu
   exact ⟨f, hf, .refl f⟩
 frm := fun f hf => cG7.2 (.inr ⟨by rw [List.length_replicate]; exact hF f hf, f, List.mem_map.2 ⟨f, hf, rfl⟩, rfl⟩)
 cl := fun j x u hj hb hx hu => by
  have := gy7 hx
  omega
theorem lU7 : ∀ (l : List Int) (k : Nat) (m : List Bool), (∀ u ∈ l, 0 ≤ u ∧ u < (m.length : Int)) → fn7 l k m = some (dU7 m l)
 | [], k, m, h => rfl
 | u :: l, k, m, h => by
  have hu := h u (by simp)
  obtain ⟨b, hb⟩ := f87 (xs := m) (i := u.toNat) (by omega)
  simp only [fn7, ck7 hu.1, hb, Option.bind_some]
  exact lU7 l (k + 1) _ fun v hv => by
   rw [List.length_set]
   exact h v (by simp [hv])
theorem lV7 {r : aF7} {v : Nat} {x : Commit} (hx : r.commits[v]? = some x) (hu : ∀ u ∈ x.up, 0 ≤ u ∧ u < (v : Int)) (h2 : x.up.length ≤ 2) : ∀ (l : List Int) (j n : Nat) (m : List Bool), x.up.drop j = l → l.length < n → m[v]? = some true → dc7 r (v : Int) n (j : Int) m = some (dU7 m l)
 | _, _, 0, _, _, h, _ => by omega
 | [], j, n + 1, m, h, hn, hm => by
  simp only [dc7, ao7, hx, Option.bind_some, sm7 h]
  rfl
 | u :: l, j, n + 1, m, h, hn, hm => by
  have hue := cq7 h
  have hul := hu u (List.mem_of_getElem? hue)
  have hvl := gy7 hm
  obtain ⟨b, hb⟩ := f87 (xs := m) (i := u.toNat) (by omega)
  have hjl := cf7 h
  have hw : IntKind.i64.wrap ((j : Int) + 1) = ((j + 1 : Nat) : Int) := by rw [aM7 (by omega) (by omega)]; omega
  simp only [dc7, ao7, hx, Option.bind_some, sn7 h, hm, hue, ck7 hul.1, hb, if_true, hw]
  exact lV7 hx hu h2 l (j + 1) n _ (ia7 h) (by simp at hn; omega) (by rw [List.getElem?_set_ne (by omega)]; exact hm)
theorem rz7 {r : aF7} {v n : Nat} {x : Commit} {m : List Bool} (hx : r.commits[v]? = some x) (hm : m[v]? = some false) : dc7 r (v : Int) (n + 1) 0 m = some m := by
 simp only [dc7, ao7, hx, Option.bind_some, hm]
 split
 ·rfl
 ·rfl
theorem hD7 {r : aF7} {F : List Nat} (hc : pc7 r.commits) : ∀ (k n : Nat) (m : List Bool), k < n → k ≤ r.commits.length → k ≤ 1048576 → Marks r.commits F k m → fo7 r n ((k : Int) - 1) m = some (kv7 r.commits F)
 | _, 0, _, h, _, _, _ => by omega
 | 0, n + 1, m, _, _, _, h => by
  rw [h.fin]
  rfl
 | k + 1, n + 1, m, hn, hk, hb, h => by
  obtain ⟨x, hx⟩ := f87 (xs := r.commits) (i := k) (by omega)
  obtain ⟨b, hb2⟩ := f87 (xs := m) (i := k) (by rw [h.len]; omega)
  have e1 : (((k + 1 : Nat) : Int) - 1) = (k : Int) := by omega
  have hw : IntKind.i64.wrap ((k : Int) - 1) = (k : Int) - 1 := aM7 (by omega) (by omega)
  have hge : decide ((k : Int) ≥ 0) = true := decide_eq_true (by omega)
  have hr : aP7 = 4194303 + 1 := rfl
  rw [e1]
  simp only [fo7, hge, if_true, hw]
  cases b
  ·rw [hr, rz7 hx hb2]
   exact hD7 hc k n m (by omega) (by omega) (by omega) (h.skip (by rw [hb2]; simp))
  ·have h2 := hc.two x (List.mem_of_getElem? hx)
   have := lV7 hx (hc.lt k x hx) h2 x.up 0 aP7 m rfl (by rw [hr]; omega) hb2
   simp only [Int.ofNat_zero, Int.natCast_zero] at this
   rw [this]
   exact hD7 hc k n _ (by omega) (by omega) (by omega) (h.step hc hb2 hx)
theorem yg7 {r : aF7} {F : List Nat} (hc : pc7 r.commits) (hl : r.commits.length ≤ 1048576) (hF : ∀ f ∈ F, f < r.commits.length) (hFl : F.length ≤ 1048576) : lw7 r (F.map fun (f : Nat) => (f : Int)) = some (kv7 r.commits F) := by
 have hr : aP7 = 4194303 + 1 := rfl
 unfold lw7
 rw [if_pos (by simp [aa7 hl]), if_pos (aa7 (by simpa using hFl)), Int.toNat_natCast, lU7 _ _ _ (fun u hu => by
  obtain ⟨f, hf, rfl⟩ := List.mem_map.1 hu
  have := hF f hf
  rw [List.length_replicate]
  omega), aM7 (by omega) (by omega)]
 simp only [Option.bind_some]
 rw [hD7 hc r.commits.length aP7 _ (by rw [hr]; omega) (Nat.le_refl _) hl (nL7 hF)]
 rfl
theorem nM7 {r : aF7} {k : Nat} (hc : pc7 r.commits) (hl : r.commits.length ≤ 1048576) (hk : k < r.commits.length) : lw7 r [(k : Int)] = some (kv7 r.commits [k]) := by
 have := yg7 (r := r) (F := [k]) hc hl (by simpa using hk) (by simp)
 simpa using this
theorem ul7 : ∀ (l : List Int) (k : Nat) (m : List Bool), (∀ u ∈ l, 0 ≤ u ∧ u < (m.length : Int)) → fC7 l k m = some (dU7 m l)
 | [], k, m, h => rfl
 | u :: l, k, m, h => by
  have hu := h u (by simp)
  obtain ⟨b, hb⟩ := f87 (xs := m) (i := u.toNat) (by omega)
  simp only [fC7, ck7 hu.1, hb, Option.bind_some]
  exact ul7 l (k + 1) _ fun v hv => by
   rw [List.length_set]
   exact h v (by simp [hv])
theorem oV7 {r : aF7} {F : List Nat} (hc : pc7 r.commits) : ∀ (k n : Nat) (m : List Bool), k < n → k ≤ r.commits.length → k ≤ 1048576 → Marks r.commits F k m → em7 r n ((k : Int) - 1) m = some (kv7 r.commits F)
 | _, 0, _, h, _, _, _ => by omega
 | 0, n + 1, m, _, _, _, h => by
  rw [h.fin]
  rfl
 | k + 1, n + 1, m, hn, hk, hb, h => by
  obtain ⟨x, hx⟩ := f87 (xs := r.commits) (i := k) (by omega)
  obtain ⟨b, hb2⟩ := f87 (xs := m) (i := k) (by rw [h.len]; omega)
  have e1 : (((k + 1 : Nat) : Int) - 1) = (k : Int) := by omega
  have hw : IntKind.i64.wrap ((k : Int) - 1) = (k : Int) - 1 := aM7 (by omega) (by omega)
  have hge : decide ((k : Int) ≥ 0) = true := decide_eq_true (by omega)
  rw [e1]
  simp only [em7, hge, if_true, hw, ao7, hb2, Option.bind_some]
  cases b
  ·exact oV7 hc k n m (by omega) (by omega) (by omega) (h.skip (by rw [hb2]; simp))
  ·have h2 := hc.two x (List.mem_of_getElem? hx)
   simp only [hx, if_true, Option.bind_some]
   rw [if_pos (aa7 (by omega)), ul7 x.up 0 m (fun u hu => by
    have := hc.lt k x hx u hu
    rw [h.len]
    omega)]
   exact oV7 hc k n _ (by omega) (by omega) (by omega) (h.step hc hb2 hx)
theorem um7 {r : aF7} {k : Nat} (hc : pc7 r.commits) (hl : r.commits.length ≤ 1048576) (hk : k < r.commits.length) : jV7 r (k : Int) = some (kv7 r.commits [k]) := by
 have hr : aP7 = 4194303 + 1 := rfl
 have h0 : (List.replicate r.commits.length false)[k]? = some false := by rw [List.getElem?_replicate, if_pos hk]
 have hm : Marks r.commits [k] (k + 1) ((List.replicate r.commits.length false).set k true) := by
  have := nL7 (cs := r.commits) (F := [k]) (by simpa using hk)
  exact sJ7 hc (by simpa [dU7] using this) (by simp) (by omega)
 have e1 : (((k + 1 : Nat) : Int) - 1) = (k : Int) := by omega
 have := oV7 hc (k + 1) aP7 _ (by rw [hr]; omega) (by omega) (by omega) hm
 rw [e1] at this
 unfold jV7
 rw [if_pos (by simp [aa7 hl])]
 simp only [Int.toNat_natCast, ao7, h0, Option.bind_some, this]
theorem iJ7 {r : aF7} {v : Nat} {x : Commit} (hx : r.commits[v]? = some x) (h2 : x.up.length ≤ 2) : ∀ (l : List Int) (j n : Nat) (m : List Bool), x.up.drop j = l → l.length < n → (∀ u ∈ l, 0 ≤ u ∧ u < (m.length : Int)) → dz7 r (v : Int) n (j : Int) m = some (dU7 m l)
 | _, _, 0, _, _, h, _ => by omega
 | [], j, n + 1, m, h, hn, hm => by
  simp only [dz7, ao7, hx, Option.bind_some, sm7 h]
  rfl
 | u :: l, j, n + 1, m, h, hn, hm => by
  have hue := cq7 h
  have hul := hm u (by simp)
  obtain ⟨b, hb⟩ := f87 (xs := m) (i := u.toNat) (by omega)
  have hjl := cf7 h
  have hw : IntKind.i64.wrap ((j : Int) + 1) = ((j + 1 : Nat) : Int) := by rw [aM7 (by omega) (by omega)]; omega
  simp only [dz7, ao7, hx, Option.bind_some, sn7 h, hue, ck7 hul.1, hb, if_true, hw]
  exact iJ7 hx h2 l (j + 1) n _ (ia7 h) (by simp at hn; omega) (fun v hv => by rw [List.length_set]; exact hm v (by simp [hv]))
open Classical in
theorem fR7 {r : aF7} {a b : Nat} (hc : pc7 r.commits) : ∀ (k n : Nat) (out : List Int) (d : List Bool), k < n → k ≤ r.commits.length → k ≤ 1048576 → out.length + k ≤ 1048576 → d.length = r.commits.length → (∀ j, j < k → (d[j]? = some true ↔ ∃ c x u, k ≤ c ∧ Com r.commits a b c ∧ r.commits[c]? = some x ∧ u ∈ x.up ∧ j = u.toNat)) → cN7 (kv7 r.commits [a]) (kv7 r.commits [b]) r n ((k : Int) - 1) out d = some (out ++ eF7 (fun k => decide (kw7 r.commits a b k)) k)
 | _, 0, _, _, h, _, _, _, _, _ => by omega
 | 0, n + 1, out, d, _, _, _, _, _, _ => by
  simp only [eF7, List.append_nil]
  rfl
 | k + 1, n + 1, out, d, hn, hk, hb, ho, hd, hi => by
  obtain ⟨x, hx⟩ := f87 (xs := r.commits) (i := k) (by omega)
  obtain ⟨bd, hbd⟩ := f87 (xs := d) (i := k) (by omega)
  have e1 : (((k + 1 : Nat) : Int) - 1) = (k : Int) := by omega
  have hw : IntKind.i64.wrap ((k : Int) - 1) = (k : Int) - 1 := aM7 (by omega) (by omega)
  have hge : decide ((k : Int) ≥ 0) = true := decide_eq_true (by omega)
  have h2 := hc.two x (List.mem_of_getElem? hx)
  have hr : aP7 = 4194303 + 1 := rfl
  have skip : ¬ Com r.commits a b k → cN7 (kv7 r.commits [a]) (kv7 r.commits [b]) r n ((k : Int) - 1) out d = some (out ++ eF7 (fun k => decide (kw7 r.commits a b k)) (k + 1)) := fun hnc => by
   have hnb : ¬ kw7 r.commits a b k := fun h => hnc h.1
   rw [fR7 hc k n out d (by omega) (by omega) (by omega) (by omega) hd fun j hj => ?_]
   ·simp [eF7, hnb]
   ·rw [hi j (by omega)]
    constructor
    ·rintro ⟨c, y, u, h1, h3⟩
     exact ⟨c, y, u, by omega, h3⟩
    ·rintro ⟨c, y, u, h1, h3⟩
     rcases Nat.eq_or_lt_of_le h1 with rfl | h1
     ·exact absurd h3.1 hnc
     ·exact ⟨c, y, u, h1, h3⟩
  rw [e1]
  simp only [cN7, hge, if_true, hw, ao7, iF7 (show k < r.commits.length by omega), hbd, Option.bind_some]
  by_cases h1 : Anc r.commits a k
  ·by_cases h3 : Anc r.commits b k
   ·have hcom : Com r.commits a b k := ⟨h1, h3⟩
    have hdb : bd = true ↔ ¬ kw7 r.commits a b k := by
     rw [← ye7 hc hcom]
     have := hi k (by omega)
     rw [hbd] at this
     simp only [Option.some.injEq] at this
     rw [this]
     constructor
     ·rintro ⟨c, y, u, _, h⟩
      exact ⟨c, y, u, h⟩
     ·rintro ⟨c, y, u, h4, h5, h6, h7⟩
      have := hc.lt _ _ h5 _ h6
      exact ⟨c, y, u, by omega, h4, h5, h6, h7⟩
    have hstep : dz7 r (k : Int) aP7 0 d = some (dU7 d x.up) := by
     have := iJ7 hx h2 x.up 0 aP7 d rfl (by rw [hr]; omega) (fun u hu => by have := hc.lt k x hx u hu; omega)
     simpa using this
    have ih : ∀ out', out'.length + k ≤ 1048576 → cN7 (kv7 r.commits [a]) (kv7 r.commits [b]) r n ((k : Int) - 1) out' (dU7 d x.up) = some (out' ++ eF7 (fun k => decide (kw7 r.commits a b k)) k) := fun out' ho' => by
     refine fR7 hc k n out' _ (by omega) (by omega) (by omega) ho' (by rw [jm7, hd]) fun j hj => ?_
     rw [cG7, hi j (by omega)]
     constructor
     ·rintro (⟨c, y, u, h4, h5⟩ | ⟨_, u, h4, rfl⟩)
      ·exact ⟨c, y, u, by omega, h5⟩
      ·exact ⟨k, x, u, Nat.le_refl _, hcom, hx, h4, rfl⟩
     ·rintro ⟨c, y, u, h4, h5, h6, h7, h8⟩
      rcases Nat.eq_or_lt_of_le h4 with rfl | h4
      ·rw [hx] at h6
       cases h6
       exact .inr ⟨by omega, u, h7, h8.symm⟩
      ·exact .inl ⟨c, y, u, h4, h5, h6, h7, h8⟩
    simp only [h1, h3, decide_true, Bool.not_true, hstep, Option.bind_some]
    cases bd
    ·have hbase : kw7 r.commits a b k := Classical.byContradiction fun h => by simpa using hdb.2 h
     simp only [Bool.not_false, if_true]
     rw [if_neg (by decide), if_neg (by decide), if_pos (aa7 (by simp; omega))]
     simp only [Option.bind_some]
     rw [ih _ (by simp; omega)]
     simp [eF7, hbase]
    ·have hbase : ¬ kw7 r.commits a b k := hdb.1 rfl
     simp only [Bool.not_true]
     rw [if_neg (by decide), if_neg (by decide), if_neg (by decide)]
     simp only [Option.bind_some]
     rw [ih _ (by omega)]
     simp [eF7, hbase]
   ·simp only [h1, h3, decide_true, decide_false, Bool.not_true, Bool.not_false]
    rw [if_neg (by decide), if_pos trivial]
    exact skip fun h => h3 h.2
  ·simp only [h1, decide_false, Bool.not_false, if_true]
   exact skip fun h => h1 h.1
def inR (r : aF7) (k : Int) : Bool := cT7 r && (decide (0 ≤ k) && decide (k < (r.commits.length : Int)))
theorem hi7 {r : aF7} {k : Int} (h : inR r k = true) : cT7 r = true ∧ ∃ n : Nat, k = (n : Int) ∧ n < r.commits.length := by
 unfold inR at h
 simp only [Bool.and_eq_true, decide_eq_true_eq] at h
 exact ⟨h.1, k.toNat, by omega, by omega⟩
theorem sN7 {r : aF7} {a b : Int} (hw : cj7 r ≤ 1048576) : qo7 r a b = some (if (inR r a && inR r b) = true then iE7 r.commits a.toNat b.toNat else []) := by
 unfold qo7
 rw [Ca7 hw, Ca7 hw]
 by_cases h1 : inR r a = true
 ·by_cases h2 : inR r b = true
  ·obtain ⟨hr, i, rfl, hi⟩ := hi7 h1
   obtain ⟨_, j, rfl, hj⟩ := hi7 h2
   have hc := dT7 hr
   have hl := (ku7 hr).1.2
   have hrd : aP7 = 4194303 + 1 := rfl
   rw [h1, h2]
   simp only [inR] at h1 h2
   rw [h1, h2, nM7 hc (by omega) hi, nM7 hc (by omega) hj]
   simp only [Option.bind_some, Bool.not_true, if_true]
   rw [if_neg (by decide), if_neg (by decide), if_pos (by simp [aa7 (n := r.commits.length) (by omega)]), aM7 (by omega) (by omega), Int.toNat_natCast, fR7 hc r.commits.length aP7 [] _ (by rw [hrd]; omega) (Nat.le_refl _) (by omega) (by simp; omega) (by simp) (fun k hk => ?_)]
   ·rfl
   ·constructor
    ·exact fun h => absurd h yf7
    ·rintro ⟨c, x, u, h3, h4, h5, _⟩
     have := gy7 h5
     omega
  ·have h2' := h2
   simp only [inR] at h1 h2'
   rw [h1]
   simp only [Bool.not_eq_true] at h2'
   rw [h2']
   simp [h2]
 ·have h1' := h1
  simp only [inR, Bool.not_eq_true] at h1'
  rw [h1']
  simp [h1]
open Classical in
theorem vH7 {r : aF7} (hc : pc7 r.commits) (hl : r.commits.length ≤ 1048576) {k : Nat} (hk : k < r.commits.length) {out : List Int} (ho : ∀ u ∈ out, ∃ j : Nat, u = (j : Int) ∧ j < r.commits.length) (hlen : out.length ≤ 1048576) : qL7 out r (k : Int) = some (decide (∃ j : Nat, (j : Int) ∈ out ∧ Anc r.commits j k)) := by
 have key0 : qK7 out r (k : Int) = some (a97 (fun u => decide (Anc r.commits u.toNat k)) out 0) := by
  unfold qK7
  rw [if_pos (aa7 hlen)]
  exact mr7 (gl := fD7 r (k : Int)) (p := fun u => decide (Anc r.commits u.toNat k)) (ok := fun u => ∃ j : Nat, u = (j : Int) ∧ j < r.commits.length) (fun _ => rfl) (fun u l i hu => by
   obtain ⟨j, rfl, hj⟩ := hu
   simp only [fD7, t47, um7 hc hl hj, Option.bind_some, ao7, iF7 hk, Int.toNat_natCast]) out 0 ho
 unfold qL7
 rw [key0]
 ·simp only [Option.bind_some, Option.some.injEq]
  have key : ∀ (l : List Int) (i : Nat), (∀ u ∈ l, ∃ j : Nat, u = (j : Int) ∧ j < r.commits.length) → (a97 (fun u => decide (Anc r.commits u.toNat k)) l i ≥ 0 ↔ ∃ j : Nat, (j : Int) ∈ l ∧ Anc r.commits j k) := fun l => by
   induction l with
   | nil => intro i _; simp [a97]
   | cons u l ih =>
    intro i hl
    obtain ⟨j, rfl, hj⟩ := hl u (by simp)
    simp only [a97, Int.toNat_natCast]
    by_cases hp : Anc r.commits j k
    ·rw [if_pos (by simpa using hp)]
     exact ⟨fun _ => ⟨j, by simp, hp⟩, fun _ => by omega⟩
    ·rw [if_neg (by simpa using hp), ih (i + 1) fun u hu => hl u (by simp [hu])]
     constructor
     ·rintro ⟨j', h1, h2⟩
      exact ⟨j', by simp [h1], h2⟩
     ·rintro ⟨j', h1, h2⟩
      rcases List.mem_cons.1 h1 with h1 | h1
      ·have : j' = j := by omega
       subst this
       exact absurd h2 hp
      ·exact ⟨j', h1, h2⟩
  exact decide_eq_decide.2 (key out 0 ho)
open Classical in
theorem fS7 {r : aF7} {a b : Nat} (hc : pc7 r.commits) (hl : r.commits.length ≤ 1048576) : ∀ (k n : Nat) (out : List Int), k < n → k ≤ r.commits.length → out.length + k ≤ 1048576 → (∀ u, u ∈ out ↔ ∃ j : Nat, u = (j : Int) ∧ k ≤ j ∧ kw7 r.commits a b j ∧ j < r.commits.length) → im7 (kv7 r.commits [a]) (kv7 r.commits [b]) r n out ((k : Int) - 1) = some (out ++ eF7 (fun k => decide (kw7 r.commits a b k)) k)
 | _, 0, _, h, _, _, _ => by omega
 | 0, n + 1, out, _, _, _, _ => by
  simp only [eF7, List.append_nil]
  rfl
 | k + 1, n + 1, out, hn, hk, ho, hi => by
  have e1 : (((k + 1 : Nat) : Int) - 1) = (k : Int) := by omega
  have hw : IntKind.i64.wrap ((k : Int) - 1) = (k : Int) - 1 := aM7 (by omega) (by omega)
  have hge : decide ((k : Int) ≥ 0) = true := decide_eq_true (by omega)
  have skip : ¬ kw7 r.commits a b k → im7 (kv7 r.commits [a]) (kv7 r.commits [b]) r n out ((k : Int) - 1) = some (out ++ eF7 (fun k => decide (kw7 r.commits a b k)) (k + 1)) := fun hnb => by
   rw [fS7 hc hl k n out (by omega) (by omega) (by omega) fun u => ?_]
   ·simp [eF7, hnb]
   ·rw [hi u]
    constructor
    ·rintro ⟨j, h1, h2, h3⟩
     exact ⟨j, h1, by omega, h3⟩
    ·rintro ⟨j, h1, h2, h3⟩
     rcases Nat.eq_or_lt_of_le h2 with rfl | h2
     ·exact absurd h3.1 hnb
     ·exact ⟨j, h1, h2, h3⟩
  have take : kw7 r.commits a b k → im7 (kv7 r.commits [a]) (kv7 r.commits [b]) r n (out ++ [(k : Int)]) ((k : Int) - 1) = some (out ++ eF7 (fun k => decide (kw7 r.commits a b k)) (k + 1)) := fun hb => by
   rw [fS7 hc hl k n _ (by omega) (by omega) (by simp; omega) fun u => ?_]
   ·simp [eF7, hb]
   ·rw [List.mem_append, hi u, List.mem_singleton]
    constructor
    ·rintro (⟨j, h1, h2, h3⟩ | rfl)
     ·exact ⟨j, h1, by omega, h3⟩
     ·exact ⟨k, rfl, Nat.le_refl _, hb, by omega⟩
    ·rintro ⟨j, h1, h2, h3⟩
     rcases Nat.eq_or_lt_of_le h2 with rfl | h2
     ·exact .inr h1
     ·exact .inl ⟨j, h1, h2, h3⟩
  rw [e1]
  simp only [im7, hge, if_true, hw, ao7, iF7 (show k < r.commits.length by omega), Option.bind_some]
  by_cases h1 : Anc r.commits a k
  ·by_cases h3 : Anc r.commits b k
   ·have hcom : Com r.commits a b k := ⟨h1, h3⟩
    rw [vH7 hc hl (by omega) (fun u hu => by
     obtain ⟨j, h4, _, _, h5⟩ := (hi u).1 hu
     exact ⟨j, h4, h5⟩) (by omega)]
    have hct : (∃ j : Nat, (j : Int) ∈ out ∧ Anc r.commits j k) ↔ ¬ kw7 r.commits a b k := by
     rw [← uf7 hc hcom]
     constructor
     ·rintro ⟨j, h4, h5⟩
      obtain ⟨j', h6, h7, h8, h9⟩ := (hi _).1 h4
      have : j = j' := by omega
      subst this
      exact ⟨j, by omega, h8, h5⟩
     ·rintro ⟨j, h4, h5, h6⟩
      refine ⟨j, (hi _).2 ⟨j, rfl, by omega, h5, ?_⟩, h6⟩
      rcases h6.last with rfl | ⟨c, x, u, h7, h8, _⟩
      ·omega
      ·rcases Nat.lt_or_ge j r.commits.length with h | h
       ·exact h
       ·exfalso
        have : ∀ p q, Anc r.commits p q → r.commits.length ≤ p → q = p := fun p q hpq hp => by
         induction hpq with
         | refl => rfl
         | up ha hx hu ih =>
          have := gy7 hx
          omega
        have := this j k h6 h
        omega
    simp only [h1, h3, decide_true, Bool.not_true, Option.bind_some]
    rw [if_neg (by decide), if_neg (by decide)]
    by_cases hb : kw7 r.commits a b k
    ·have hf : decide (∃ j : Nat, (j : Int) ∈ out ∧ Anc r.commits j k) = false := decide_eq_false fun h => hct.1 h hb
     rw [hf]
     simp only [Bool.not_false, if_true]
     rw [if_pos (aa7 (by simp; omega))]
     exact take hb
    ·have hf : decide (∃ j : Nat, (j : Int) ∈ out ∧ Anc r.commits j k) = true := decide_eq_true (hct.2 hb)
     rw [hf]
     simp only [Bool.not_true]
     rw [if_neg (by decide)]
     exact skip hb
   ·simp only [h1, h3, decide_true, decide_false, Bool.not_true, Bool.not_false]
    rw [if_neg (by decide), if_pos trivial]
    exact skip fun h => h3 h.1.2
  ·simp only [h1, decide_false, Bool.not_false, if_true]
   exact skip fun h => h1 h.1.1
theorem sO7 {r : aF7} {a b : Int} (hw : cj7 r ≤ 1048576) : qM7 r a b = some (if (inR r a && inR r b) = true then iE7 r.commits a.toNat b.toNat else []) := by
 have hla : r.commits.length ≤ 1048576 := by unfold cj7 wL at hw; omega
 unfold qM7
 rw [uk7 hw, gA7 hla, gA7 hla]
 by_cases h1 : inR r a = true
 ·by_cases h2 : inR r b = true
  ·obtain ⟨hr, i, rfl, hi⟩ := hi7 h1
   obtain ⟨_, j, rfl, hj⟩ := hi7 h2
   have hc := dT7 hr
   have hl := (ku7 hr).1.2
   have hrd : aP7 = 4194303 + 1 := rfl
   rw [h1, h2, hr]
   simp only [Option.bind_some, Bool.not_true, um7 hc hla hi, um7 hc hla hj, ud7]
   have e1 : (decide ((0 : Int) ≤ (i : Int)) && decide ((i : Int) < (r.commits.length : Int))) = true := by simp; omega
   have e2 : (decide ((0 : Int) ≤ (j : Int)) && decide ((j : Int) < (r.commits.length : Int))) = true := by simp; omega
   rw [e1, e2]
   simp only [Bool.not_true, Bool.and_true, if_true]
   rw [if_neg (by decide), if_neg (by decide), if_neg (by decide), aM7 (by omega) (by omega), fS7 hc hla r.commits.length aP7 [] (by rw [hrd]; omega) (Nat.le_refl _) (by simp; omega) (fun u => ?_)]
   ·rfl
   ·constructor
    ·intro h; cases h
    ·rintro ⟨j, _, h3, _, h4⟩
     omega
  ·rw [h1]
   unfold inR at h1 h2
   simp only [Bool.and_eq_true] at h1
   simp only [h1.1, h1.2, Bool.true_and, Bool.not_eq_true] at h2
   simp only [h1.1, h2, inR]
   simp only [h1.2]
   simp
 ·unfold inR at h1
  by_cases hr : cT7 r = true
  ·simp only [hr, Bool.true_and, Bool.not_eq_true] at h1
   simp [hr, h1, inR]
  ·simp [hr, inR]
noncomputable def bK7 (r : aF7) (a b : Int) : Int := ((if (inR r a && inR r b) = true then iE7 r.commits a.toNat b.toNat else []).head?).getD (-1)
theorem nN7 {r : aF7} {a b : Int} (hw : cj7 r ≤ 1048576) : nw7 r a b = some (bK7 r a b) := by
 unfold nw7 bK7
 rw [sN7 hw]
 simp only [Option.bind_some]
 generalize (if (inR r a && inR r b) = true then iE7 r.commits a.toNat b.toNat else []) = l
 cases l with
 | nil => rfl
 | cons x l =>
  rw [if_neg (by simp; omega)]
  rfl
theorem nO7 {r : aF7} {a b : Int} (hw : cj7 r ≤ 1048576) : lG7 r a b = some (bK7 r a b) := by
 unfold lG7 bK7
 rw [sO7 hw]
 simp only [Option.bind_some]
 generalize (if (inR r a && inR r b) = true then iE7 r.commits a.toNat b.toNat else []) = l
 cases l with
 | nil => rfl
 | cons x l =>
  rw [if_neg (by simp; omega)]
  rfl
def c1 {α : Type} (_ : α) : Nat := 1
def c2 {α : Type} (_ : α) : Nat := 2
theorem rA7 {α : Type} {p : α → Bool} : ∀ {l : List α} {k : Nat}, a97 p l k = -1 ∨ ∃ j x, a97 p l k = ((k + j : Nat) : Int) ∧ l[j]? = some x ∧ p x = true
 | [], k => .inl rfl
 | x :: l, k => by
  simp only [a97]
  by_cases h : p x = true
  ·rw [if_pos h]
   exact .inr ⟨0, x, rfl, rfl, h⟩
  ·rw [if_neg h]
   rcases rA7 (p := p) (l := l) (k := k + 1) with h1 | ⟨j, y, h1, h2, h3⟩
   ·exact .inl h1
   ·exact .inr ⟨j + 1, y, by rw [h1]; congr 1; omega, by simpa using h2, h3⟩
theorem E27 {r : aF7} (hr : cT7 r = true) (n : Str) : bT7 r.heads n = -1 ∨ ∃ (k a : Nat) (h : Head), bT7 r.heads n = (k : Int) ∧ r.heads[k]? = some h ∧ h.name = n ∧ h.at_ = (a : Int) ∧ a < r.commits.length := by
 rcases rA7 (p := fun x : Head => decide (x.name = n)) (l := r.heads) (k := 0) with h | ⟨j, x, h1, h2, h3⟩
 ·exact .inl h
 ·refine .inr ⟨j, x.at_.toNat, x, by unfold bT7; rw [h1]; simp, h2, by simpa using h3, ?_⟩
  unfold cT7 at hr
  simp only [Bool.and_eq_true] at hr
  have := c87 hr.2.2.2.2.2 j x h2
  simp only [Bool.and_eq_true, decide_eq_true_eq] at this
  omega
theorem oW7 {α : Type} {g : α → Option α} {gl : List α → Nat → List α → Option (List α)} (h0 : ∀ k v, gl [] k v = some v) (h1 : ∀ x l k v, gl (x :: l) k v = (g x).bind fun y => if aH7 (v ++ [y]).length = true then gl l (k + 1) (v ++ [y]) else none) : ∀ (l : List α) (k : Nat) (v : List α), (∀ x ∈ l, g x = some x) → v.length + l.length ≤ 1048576 → gl l k v = some (v ++ l)
 | [], k, v, _, _ => by rw [h0]; simp
 | x :: l, k, v, hx, hl => by
  simp only [List.length_cons] at hl
  rw [h1, hx x (by simp)]
  simp only [Option.bind_some]
  rw [if_pos (aa7 (by simp; omega)), oW7 h0 h1 l (k + 1) _ (fun y hy => hx y (by simp [hy])) (by simp; omega)]
  simp
theorem kz7 {f : Feat} (h : aZ7 f ≤ 1048576) : g97 f = some f := by
 unfold aZ7 g77 wL at h
 unfold g97 lv7
 rw [if_pos (aa7 (by simp; omega))]
 simp only [Option.bind_some]
 rw [if_pos (aa7 (by simp; omega))]
 rfl
theorem un7 {fs : List Feat} (h : wL aZ7 fs ≤ 1048576) : no7 fs = some fs := by
 have hl : fs.length ≤ 1048576 := by unfold wL at h; omega
 unfold no7
 rw [if_pos (aa7 hl), oW7 (gl := gR7) (fun _ _ => rfl) (fun _ _ _ _ => rfl) fs 0 [] (fun x hx => kz7 (by have := bR7 (w := aZ7) hx; unfold wL at h; omega)) (by simpa using hl)]
 rfl
theorem yh7 {c : Commit} (h : aX7 c ≤ 1048576) : np7 c = some c := by
 unfold aX7 at h
 unfold np7
 rw [if_pos (aa7 (by unfold wL at h; simp; omega)), un7 (by omega)]
 rfl
theorem uo7 {r : aF7} (h : cj7 r ≤ 1048576) : nx7 r = some r := by
 unfold cj7 at h
 have hl : r.commits.length ≤ 1048576 := by unfold wL at h; omega
 unfold nx7
 rw [if_pos (aa7 (by unfold wL at h; simp; omega)), if_pos (aa7 hl), oW7 (gl := gS7) (fun _ _ => rfl) (fun _ _ _ _ => rfl) r.commits 0 [] (fun x hx => yh7 (by have := bR7 (w := aX7) hx; unfold wL at h; omega)) (by simpa using hl)]
 rfl
theorem hE7 {f : Feat} (h : aZ7 f ≤ 1048576) : lC7 f = some f := by
 unfold aZ7 g77 wL at h
 unfold lC7 lB7
 rw [if_pos (aa7 (by simp; omega))]
 simp only [Option.bind_some]
 rw [if_pos (aa7 (by simp; omega))]
 rfl
def Qr7 : aF7 := ⟨[], []⟩
def jo7 (r : aF7) (n f : Str) : aF7 × Int :=
 if (cT7 r && by7 n) = true then
  (if bT7 r.heads f < 0 then (r, 1) else if 0 ≤ bT7 r.heads n ∨ r.heads.length = 4 then (r, 2) else
   match idx r.heads (bT7 r.heads f) with
   | some h => (⟨r.commits, r.heads ++ [⟨n, h.at_⟩]⟩, 0)
   | none => (Qr7, 9))
 else (Qr7, 4)
theorem rB7 {r : aF7} {n f : Str} (hw : cj7 r ≤ 1048576) (hn : n.size ≤ 1048576) : q67 r n f = some (jo7 r n f) := by
 have hh : r.heads.length ≤ 1048576 := by unfold cj7 wL at hw; omega
 unfold q67 jo7
 rw [uj7 hw, fN7 hn, uo7 hw, ky7 hh, ky7 hh]
 simp only [Option.bind_some]
 by_cases hr : cT7 r = true
 ·by_cases hx : by7 n = true
  ·have h4 : r.heads.length ≤ 4 := (ku7 hr).2.2
   rw [hr, hx]
   simp only [Bool.not_true, Bool.and_self, if_true]
   rw [if_neg (by decide), if_neg (by decide)]
   rcases E27 hr f with h | ⟨k, a, h, h1, h2, _⟩
   ·rw [h]
    rfl
   ·rw [h1]
    have hk : ¬ ((k : Int) < 0) := by omega
    by_cases h5 : 0 ≤ bT7 r.heads n
    ·simp [hk, h5]
    ·by_cases h6 : r.heads.length = 4
     ·simp [hk, h5, h6]
     ·have h6' : ¬ ((r.heads.length : Int) = 4) := by omega
      have h6'' : ¬ ((4 : Int) ≤ (r.heads.length : Int)) := by omega
      have hfit : aH7 (r.heads.length + 1) = true := aa7 (by omega)
      simp [hk, h5, h6, h6', h6'', ao7, h2, hfit]
  ·simp only [Bool.not_eq_true] at hx
   rw [hr, hx]
   rfl
 ·simp only [Bool.not_eq_true] at hr
  rw [hr]
  rfl
def cnt (m : List Bool) : Nat → Nat
 | 0 => 0
 | k + 1 => cnt m k + (if fZ7 m k = true then 1 else 0)
def AP7 (m : List Bool) (c : Commit) : Commit := ⟨c.up.map fun u => (cnt m u.toNat : Int), c.sheet, c.note⟩
def f07 (m : List Bool) : List Commit → Nat → List Commit
 | [], _ => []
 | x :: l, k => if fZ7 m k = true then AP7 m x :: f07 m l (k + 1) else f07 m l (k + 1)
def up7 (hs : List Head) (k : Nat) (h : Head) (v : Int) : List Head := hs.set k ⟨h.name, v⟩
def PH7 (r : aF7) (n : Str) (s : List Feat) (t : Str) : aF7 × Int :=
 if (cT7 r && (aN7 s && by7 t)) = true then
  (match idx r.heads (bT7 r.heads n) with
  | none => (r, 1)
  | some h => match idx r.commits h.at_ with
   | none => (r, 1)
   | some x => if x.sheet = s then (r, 3) else
    if gn7 r.commits ⟨[h.at_], s, t⟩ < 0 then
     (if r.commits.length = 14 then (r, 2) else (⟨r.commits ++ [⟨[h.at_], s, t⟩], up7 r.heads (bT7 r.heads n).toNat h r.commits.length⟩, 0))
    else (⟨r.commits, up7 r.heads (bT7 r.heads n).toNat h (gn7 r.commits ⟨[h.at_], s, t⟩)⟩, 0))
 else (⟨[], []⟩, 4)
theorem uq7 {α : Type} {w : α → Nat} : ∀ (xs : List α) (k : Nat) (x y : α), xs[k]? = some x → w y ≤ w x → ie7 w (xs.set k y) ≤ ie7 w xs
 | [], k, x, y, h, _ => by simp at h
 | z :: xs, 0, x, y, h, hw => by
  simp only [List.getElem?_cons_zero, Option.some.injEq] at h
  subst h
  simp only [List.set_cons_zero, ie7]
  omega
 | z :: xs, k + 1, x, y, h, hw => by
  have := uq7 xs k x y (by simpa using h) hw
  simp only [List.set_cons_succ, ie7]
  omega
theorem ur7 {hs : List Head} {n : Str} {h : Head} {v : Int} (hh : idx hs (bT7 hs n) = some h) : wL j67 (up7 hs (bT7 hs n).toNat h v) ≤ wL j67 hs := by
 have h1 := (a17 hh).2
 have := uq7 (w := j67) hs _ h ⟨h.name, v⟩ h1 (Nat.le_refl _)
 unfold wL up7
 simp only [List.length_set]
 omega
theorem rC7 {α : Type} {w : α → Nat} : ∀ (a : List α) (x : α), ie7 w (a ++ [x]) = ie7 w a + w x
 | [], x => by simp [ie7]
 | y :: a, x => by simp only [List.cons_append, ie7, rC7 a x]; omega
theorem LM7 {r : aF7} {n t : Str} {s : List Feat} : cj7 (PH7 r n s t).1 ≤ cj7 r + (2 + (wL aZ7 s + t.size)) := by
 unfold PH7
 split
 ·split
  ·simp only; omega
  ·rename_i h hh
   split
   ·simp only; omega
   ·split
    ·simp only; omega
    ·split
     ·split
      ·simp only; omega
      ·have := ur7 (v := (r.commits.length : Int)) hh
       simp only [cj7]
       have e : wL aX7 (r.commits ++ [⟨[h.at_], s, t⟩]) = wL aX7 r.commits + (1 + aX7 ⟨[h.at_], s, t⟩) := by
        unfold wL
        rw [rC7]
        simp
        omega
       have e2 : aX7 ⟨[h.at_], s, t⟩ = 1 + (wL aZ7 s + (t.size + 0)) := by unfold aX7; simp [wL, ie7, w0]
       omega
     ·have := ur7 (v := gn7 r.commits ⟨[h.at_], s, t⟩) hh
      simp only [cj7]
      omega
 ·have : cj7 ⟨[], []⟩ = 0 := rfl
  simp only [this]
  omega
theorem E37 {a b : Int} (h1 : 0 ≤ a) (h2 : a < 4294967296) (h3 : 0 ≤ b) (h4 : b < 4294967296) : 0 ≤ Fu7 a b := by
 unfold Fu7
 have e : ((BitVec.ofInt 64 a ^^^ BitVec.ofInt 64 b).toNat) < 2 ^ 32 := by
  rw [BitVec.toNat_xor, BitVec.toNat_ofInt, BitVec.toNat_ofInt]
  apply Nat.xor_lt_two_pow
  ·have : (a % ((2 ^ 64 : Nat) : Int)) = a := Int.emod_eq_of_lt h1 (by omega)
   rw [this]
   omega
  ·have : (b % ((2 ^ 64 : Nat) : Int)) = b := Int.emod_eq_of_lt h3 (by omega)
   rw [this]
   omega
 rw [aM7 (by omega) (by omega)]
 omega
theorem oX7 {a b : Int} (h : 0 < b) (ha : 0 ≤ a) : ∃ v, y27 a b = some v ∧ 0 ≤ v ∧ v < b := by
 unfold y27
 rw [if_pos (by omega)]
 exact ⟨_, rfl, Int.tmod_nonneg b ha, Int.tmod_lt_of_pos a h⟩
theorem PI7 {b : List UInt8} {i : Int} (h0 : 0 ≤ i) (h : i < b.length) : ∃ x : UInt8, idx b i = some x := by
 rw [ck7 h0]
 exact f87 (by omega)
theorem yi7 {b : List UInt8} {p n : Int} (hb : b.length ≤ 2000) (h0 : 0 ≤ p) (hp : p ≤ 1000000) : ∃ v, bv7 ⟨b, p⟩ n = some (v, p + 1) ∧ 0 ≤ v ∧ (1 ≤ n → v < n) := by
 unfold bv7
 simp only
 have e1 : IntKind.i64.wrap (p + 1) = p + 1 := aM7 (by omega) (by omega)
 have e2 : IntKind.i64.wrap (p + 1 - 1) = p := by rw [aM7 (by omega) (by omega)]; omega
 rw [e1, e2]
 by_cases hn : n < 1
 ·rw [if_pos (by simpa using hn)]
  exact ⟨0, rfl, by omega, by omega⟩
 rw [if_neg (by simpa using hn)]
 by_cases hz : b.length = 0
 ·rw [if_pos (by simp [hz])]
  exact ⟨0, rfl, by omega, by omega⟩
 rw [if_neg (by simpa using hz)]
 have hx8 : ∀ x : UInt8, (x.toNat : Int) < 256 := fun x => by have := x.toNat_lt; omega
 by_cases hl : p < b.length
 ·rw [if_pos (by simpa using hl)]
  obtain ⟨x, hx⟩ := PI7 h0 hl
  have := hx8 x
  rw [hx, Option.bind_some, aM7 (by omega) (by omega)]
  obtain ⟨v, hv, h1, h2⟩ := oX7 (a := (x.toNat : Int)) (b := n) (by omega) (by omega)
  rw [hv]
  exact ⟨v, rfl, h1, fun _ => h2⟩
 rw [if_neg (by simpa using hl)]
 obtain ⟨i, hi, i1, i2⟩ := oX7 (a := p) (b := b.length) (by omega) h0
 obtain ⟨x, hx⟩ := PI7 i1 i2
 have e3 : IntKind.i64.wrap (IntKind.i64.wrap (p * 7) + 3) = p * 7 + 3 := by rw [aM7 (n := p * 7) (by omega) (by omega), aM7 (by omega) (by omega)]
 obtain ⟨j, hj, j1, j2⟩ := oX7 (a := p * 7 + 3) (b := b.length) (by omega) (by omega)
 obtain ⟨y, hy⟩ := PI7 j1 j2
 have q1 : 0 ≤ p.tdiv b.length := Int.tdiv_nonneg h0 (by omega)
 have q2 : p.tdiv b.length ≤ p := Int.tdiv_le_self _ h0
 have hq : CJ7 p b.length = some (p.tdiv b.length) := by
  unfold CJ7
  rw [if_pos (by omega), aM7 (by omega) (by omega)]
 rw [hi, Option.bind_some, hx, Option.bind_some, e3, hj, Option.bind_some, hy, Option.bind_some, hq, Option.bind_some]
 have ux := hx8 x
 have uy := hx8 y
 have wx : 0 ≤ (x.toNat : Int) := by omega
 have wy : 0 ≤ (y.toNat : Int) := by omega
 generalize (x.toNat : Int) = X at ux wx ⊢
 generalize (y.toNat : Int) = Y at uy wy ⊢
 generalize p.tdiv b.length = T at q1 q2 ⊢
 rw [aM7 (n := X) (by omega) (by omega), aM7 (n := Y) (by omega) (by omega), aM7 (n := X * 131) (by omega) (by omega), aM7 (n := Y * 1117) (by omega) (by omega), aM7 (n := X * 131 + Y * 1117) (by omega) (by omega),
  aM7 (n := p * 29) (by omega) (by omega), aM7 (n := X * 131 + Y * 1117 + p * 29) (by omega) (by omega), aM7 (n := T * 53) (by omega) (by omega), aM7 (n := X * 131 + Y * 1117 + p * 29 + T * 53) (by omega) (by omega)]
 have s0 : 0 ≤ X * 131 + Y * 1117 + p * 29 + T * 53 := by omega
 have s1 : X * 131 + Y * 1117 + p * 29 + T * 53 < 4294967296 := by omega
 generalize X * 131 + Y * 1117 + p * 29 + T * 53 = S at s0 s1 ⊢
 have t0 : 0 ≤ S.tdiv 64 := Int.tdiv_nonneg s0 (by omega)
 have t1 : S.tdiv 64 ≤ S := Int.tdiv_le_self _ s0
 rw [aM7 (by omega) (by omega)]
 obtain ⟨v, hv, h1, h2⟩ := oX7 (a := Fu7 S (S.tdiv 64)) (b := n) (by omega) (E37 s0 s1 t0 (by omega))
 rw [hv]
 exact ⟨v, rfl, h1, fun _ => h2⟩
def Drw {α : Type} (g : Rd → Option (α × Int)) (k : Nat) (P : α → Prop) : Prop := ∀ (b : List UInt8) (p : Int), b.length ≤ 2000 → 0 ≤ p → p + k ≤ 100000 → ∃ a p', g ⟨b, p⟩ = some (a, p') ∧ p ≤ p' ∧ p' ≤ p + k ∧ P a
theorem bt7 {n : Int} : Drw (fun r => bv7 r n) 1 fun v => 0 ≤ v ∧ (1 ≤ n → v < n) := fun b p hb h0 hp => by
 obtain ⟨v, hv, h⟩ := yi7 (n := n) hb h0 (by omega)
 exact ⟨v, p + 1, hv, by omega, by omega, h⟩
theorem sP7 {l : List Str} (hl : l ≠ []) : Drw (fun r => gq7 r l) 1 fun v => v ∈ l := fun b p hb h0 hp => by
 obtain ⟨v, hv, h1, h2⟩ := yi7 (n := (l.length : Int)) hb h0 (by omega)
 have hn : 0 < l.length := List.length_pos_iff.2 hl
 have h3 := h2 (by omega)
 have hx : idx l v = some l[v.toNat] := by rw [ck7 h1]; exact List.getElem?_eq_getElem (by omega)
 exact ⟨l[v.toNat], p + 1, by simp only [gq7, hv, Option.bind_some, hx], by omega, by omega, List.getElem_mem _⟩
theorem rD7 {l : List Int} (hl : l ≠ []) : Drw (fun r => in7 r l) 1 fun v => v ∈ l := fun b p hb h0 hp => by
 obtain ⟨v, hv, h1, h2⟩ := yi7 (n := (l.length : Int)) hb h0 (by omega)
 have hn : 0 < l.length := List.length_pos_iff.2 hl
 have h3 := h2 (by omega)
 have hx : idx l v = some l[v.toNat] := by rw [ck7 h1]; exact List.getElem?_eq_getElem (by omega)
 exact ⟨l[v.toNat], p + 1, by simp only [in7, hv, Option.bind_some, hx], by omega, by omega, List.getElem_mem _⟩
theorem sQ7 : Drw hc7 2 fun _ => True := fun b p hb h0 hp => by
 obtain ⟨x, p1, h1, a1, b1, _⟩ := bt7 (n := 4) b p hb h0 (by omega)
 obtain ⟨y, p2, h2, a2, b2, _⟩ := rD7 (l := [0, 1, 2, 5]) (by simp) b p1 hb (by omega) (by omega)
 refine ⟨⟨x, y⟩, p2, ?_, by omega, by omega, trivial⟩
 unfold hc7
 simp only at h1 h2
 simp only [h1, Option.bind_some, h2]
theorem E47 (a c : Int) : ∃ v, q07 a c = some v := by
 unfold q07
 split <;> exact ⟨_, rfl⟩
theorem LN7 {p : Bool} {A B : Option Bool} (ha : ∃ q, A = some q) (hb : ∃ q, B = some q) : ∃ q, (if p = true then A else B) = some q := by
 split
 ·exact ha
 ·exact hb
theorem gB7 (q : Int) (a : Rd) (x : Int × Int) (hb : a.b.length ≤ 2000) : ∀ (m n : Nat) (i p : Int) (pts : List Pt), m < n → 0 ≤ i → i + m = 12 → (pts.length : Int) ≤ i → 0 ≤ p → p + 2 * m ≤ 100000 → ∃ p' pts', dF7 q a x n i p pts = some (p', pts') ∧ p ≤ p' ∧ p' ≤ p + 2 * m ∧ pts'.length ≤ 12
 | _, 0, _, _, _, h, _, _, _, _, _ => by omega
 | 0, n + 1, i, p, pts, h, h0, hi, hl, hp, hk => by
  refine ⟨p, pts, ?_, by omega, by omega, by omega⟩
  unfold dF7
  rw [if_neg (by simp; omega)]
 | m + 1, n + 1, i, p, pts, h, h0, hi, hl, hp, hk => by
  unfold dF7
  rw [if_pos (by simp; omega)]
  obtain ⟨w, hw⟩ := E47 q 6
  rw [hw, Option.bind_some]
  by_cases hlt : (pts.length : Int) < w
  ·rw [if_pos (by simpa using hlt)]
   obtain ⟨t, p1, h1, a1, b1, _⟩ := sQ7 a.b p hb hp (by omega)
   rw [h1, Option.bind_some]
   simp only
   have hq : ∃ z, (if ((pts.length : Int) == 0) = true then (some true) else ((idx pts (IntKind.i64.wrap ((pts.length : Int) - 1))).bind fun x130 => if (!((x130.x == t.x) && ((x130.y == t.y) && true))) = true then (if (x.1 != 3) = true then (some true) else ((idx pts 0).bind fun x132 => some (!((x132.x == t.x) && ((x132.y == t.y) && true))))) else (some false))) = some z := by
    by_cases hz : pts.length = 0
    ·exact ⟨true, by rw [if_pos (by simp [hz])]⟩
    ·rw [if_neg (by simpa using hz)]
     have e : IntKind.i64.wrap ((pts.length : Int) - 1) = ((pts.length - 1 : Nat) : Int) := cc7 (by omega) (by omega)
     obtain ⟨y, hy⟩ := f87 (xs := pts) (i := pts.length - 1) (by omega)
     obtain ⟨z, hz0⟩ := f87 (xs := pts) (i := 0) (by omega)
     have hz1 : idx pts 0 = some z := by rw [show (0 : Int) = ((0 : Nat) : Int) from rfl, ao7]; exact hz0
     rw [e, ao7, hy, Option.bind_some]
     refine LN7 (LN7 ⟨_, rfl⟩ ?_) ⟨_, rfl⟩
     rw [hz1]
     exact ⟨_, rfl⟩
   obtain ⟨z, hz⟩ := hq
   rw [hz, Option.bind_some, aM7 (n := i + 1) (by omega) (by omega)]
   by_cases hzz : z = true
   ·rw [if_pos hzz, if_pos (aa7 (by simp; omega))]
    obtain ⟨p', pts', g1, g2, g3, g4⟩ := gB7 q a x hb m n (i + 1) p1 (pts ++ [t]) (by omega) (by omega) (by omega) (by simp; omega) (by omega) (by omega)
    exact ⟨p', pts', g1, by omega, by omega, g4⟩
   ·rw [if_neg hzz]
    obtain ⟨p', pts', g1, g2, g3, g4⟩ := gB7 q a x hb m n (i + 1) p1 pts (by omega) (by omega) (by omega) (by omega) (by omega) (by omega)
    exact ⟨p', pts', g1, by omega, by omega, g4⟩
  ·rw [if_neg (by simpa using hlt)]
   exact ⟨p, pts, rfl, by omega, by omega, by omega⟩
theorem nP7 : Drw nH7 30 fun s => 1 ≤ s.pts.length ∧ s.pts.length ≤ 12 := fun b p hb h0 hp => by
 obtain ⟨k, p1, h1, a1, b1, hk⟩ := rD7 (l := [1, 2, 2, 3, 3]) (by simp) b p hb h0 (by omega)
 obtain ⟨w, p2, h2, a2, b2, _⟩ := bt7 (n := 4) b p1 hb (by omega) (by omega)
 unfold nH7
 simp only at h1 h2
 simp only [h1, Option.bind_some, h2]
 have hq : ∃ q, (if (k == 1) = true then some 1 else some (IntKind.i64.wrap (k + w)) : Option Int) = some q := by split <;> exact ⟨_, rfl⟩
 obtain ⟨q, hq⟩ := hq
 rw [hq, Option.bind_some]
 obtain ⟨p3, pts, h3, a3, b3, c3⟩ := gB7 q ⟨b, p⟩ (k, p1) hb 12 aP7 0 p2 [] (by decide) (by omega) (by omega) (by simp) (by omega) (by omega)
 rw [h3, Option.bind_some]
 simp only
 rw [iH7 (by simp; omega), Option.bind_some]
 by_cases hs : co7 ⟨k, pts⟩ = true
 ·rw [hs]
  refine ⟨_, p3, rfl, by omega, by omega, ?_, c3⟩
  simp only [co7, Bool.and_eq_true] at hs
  have h4 := hs.2.2
  simp only
  by_cases e1 : k = 1
  ·rw [if_pos e1] at h4; have := of_decide_eq_true h4; omega
  ·rw [if_neg e1] at h4
   by_cases e2 : k = 2
   ·rw [if_pos e2] at h4; have := of_decide_eq_true h4; omega
   ·rw [if_neg e2] at h4
    by_cases e3 : k = 3
    ·rw [if_pos e3] at h4
     simp only [Bool.and_eq_true, decide_eq_true_eq] at h4
     omega
    ·rw [if_neg e3] at h4
     cases h4
 ·rw [Bool.not_eq_true] at hs
  rw [hs]
  obtain ⟨t, p4, h4, a4, b4, _⟩ := sQ7 b p3 hb (by omega) (by omega)
  simp only [Bool.not_false, if_true, h4, Option.bind_some]
  exact ⟨_, p4, rfl, by omega, by omega, by simp, by simp⟩
theorem iK7 {α : Type} {f : α} {c1 c2 : α → Bool} {gl : List α → Nat → Bool → List α → Option (Bool × List α)} (h0 : ∀ k v w, gl [] k v w = some (v, w))
  (h1 : ∀ x l k v w, gl (x :: l) k v w = ((if (!v) = true then (if c1 x = true then (if aH7 (w ++ [f]).length = true then some (true, (w ++ [f])) else none) else (some (v, w))) else (some (v, w)) : Option (Bool × (List α)))).bind fun q => if c2 x = true then (if aH7 (q.2 ++ [x]).length = true then gl l (k + 1) q.1 (q.2 ++ [x]) else none) else gl l (k + 1) q.1 q.2) :
  ∀ (l : List α) (k : Nat) (v : Bool) (w : List α), w.length + l.length + (if v then 0 else 1) ≤ 1000000 → ∃ d out, gl l k v w = some (d, out) ∧ out.length + (if d then 0 else 1) ≤ w.length + l.length + (if v then 0 else 1) ∧ ∀ y ∈ out, y ∈ w ∨ y ∈ l ∨ y = f
 | [], k, v, w, hl => ⟨v, w, h0 k v w, by simp, fun y hy => .inl hy⟩
 | x :: l, k, v, w, hl => by
  simp only [List.length_cons] at hl
  rw [h1]
  have hq : ∃ v2 w2, ((if (!v) = true then (if c1 x = true then (if aH7 (w ++ [f]).length = true then some (true, (w ++ [f])) else none) else (some (v, w))) else (some (v, w)) : Option (Bool × (List α)))) = some (v2, w2) ∧ w2.length + (if v2 then 0 else 1) ≤ w.length + (if v then 0 else 1) ∧ ∀ y ∈ w2, y ∈ w ∨ y = f := by
   cases v
   ·simp only [Bool.not_false, if_true]
    by_cases hc : c1 x = true
    ·rw [if_pos hc, if_pos (aa7 (by simp; omega))]
     exact ⟨true, w ++ [f], rfl, by simp, fun y hy => by simpa using hy⟩
    ·rw [if_neg hc]
     exact ⟨false, w, rfl, by simp, fun y hy => .inl hy⟩
   ·exact ⟨true, w, rfl, by simp, fun y hy => .inl hy⟩
  obtain ⟨v2, w2, e, q1, q2⟩ := hq
  rw [e, Option.bind_some]
  have hw2 : w2.length ≤ w.length + 1 := by
   cases v <;> cases v2 <;> simp at q1 <;> omega
  by_cases hc : c2 x = true
  ·rw [if_pos hc, if_pos (aa7 (by simp; omega))]
   obtain ⟨d, out, g1, g2, g3⟩ := iK7 h0 h1 l (k + 1) v2 (w2 ++ [x]) (by
    simp only [List.length_append, List.length_singleton]
    omega)
   refine ⟨d, out, g1, ?_, fun y hy => ?_⟩
   ·simp only [List.length_append, List.length_cons, List.length_singleton, List.length_nil] at g2 ⊢
    omega
   ·rcases g3 y hy with h | h | h
    ·rcases List.mem_append.1 h with h | h
     ·rcases q2 y h with h | h <;> simp [h]
     ·simp at h; simp [h]
    ·simp [h]
    ·simp [h]
  ·rw [if_neg hc]
   obtain ⟨d, out, g1, g2, g3⟩ := iK7 h0 h1 l (k + 1) v2 w2 (by omega)
   refine ⟨d, out, g1, ?_, fun y hy => ?_⟩
   ·simp only [List.length_cons] at g2 ⊢
    omega
   ·rcases g3 y hy with h | h | h
    ·rcases q2 y h with h | h <;> simp [h]
    ·simp [h]
    ·simp [h]
theorem sR7 {α : Type} {f : α} {xs : List α} {z : Option (Bool × List α)} (hl : xs.length + 1 ≤ 1048576) (h : ∃ d out, z = some (d, out) ∧ out.length + (if d then 0 else 1) ≤ xs.length + 1 ∧ ∀ y ∈ out, y ∈ xs ∨ y = f) :
  ∃ out, (if aH7 xs.length = true then (z.bind fun q => if (!q.1) = true then (if aH7 (q.2 ++ [f]).length = true then some (q.2 ++ [f]) else none) else some q.2) else none) = some out ∧ out.length ≤ xs.length + 1 ∧ ∀ y ∈ out, y ∈ xs ∨ y = f := by
 obtain ⟨d, out, rfl, h1, h2⟩ := h
 rw [if_pos (aa7 (by omega)), Option.bind_some]
 cases d
 ·simp only [Bool.not_false, if_true]
  simp at h1
  rw [if_pos (aa7 (by simp; omega))]
  exact ⟨_, rfl, by simp; omega, fun y hy => by
   rcases List.mem_append.1 hy with h | h
   ·exact h2 y h
   ·simp at h; exact .inr h⟩
 ·simp at h1
  exact ⟨out, rfl, h1, h2⟩
theorem AQ7 {s : List Feat} {f : Feat} (h : s.length ≤ 1000) : ∃ out, fV7 s f = some out ∧ out.length ≤ s.length + 1 ∧ ∀ y ∈ out, y ∈ s ∨ y = f := by
 unfold fV7
 refine sR7 (by omega) ?_
 obtain ⟨d, out, h1, h2, h3⟩ := iK7 (gl := cr7 f) (f := f) (c1 := fun x => !slt x.id f.id) (c2 := fun x => !seq x.id f.id) (fun _ _ _ => rfl) (fun _ _ _ _ _ => rfl) s 0 false [] (by simp; omega)
 exact ⟨d, out, h1, by simpa using h2, fun y hy => by simpa using h3 y hy⟩
theorem lW7 {s : List Feat} {f : Feat} (h : s.length ≤ 1000) : ∃ out, nI7 s f = some out ∧ out.length ≤ s.length + 1 ∧ ∀ y ∈ out, y ∈ s ∨ y = f := by
 unfold nI7
 refine sR7 (by omega) ?_
 obtain ⟨d, out, h1, h2, h3⟩ := iK7 (gl := fI7 f) (f := f) (c1 := fun x => !slt x.id f.id) (c2 := fun x => !seq x.id f.id) (fun _ _ _ => rfl) (fun _ _ _ _ _ => rfl) s 0 false [] (by simp; omega)
 exact ⟨d, out, h1, by simpa using h2, fun y hy => by simpa using h3 y hy⟩
theorem us7 {s : List Tag} {a b : Str} (h : s.length ≤ 1000) : ∃ out, ii7 s a b = some out ∧ out.length ≤ s.length + 1 ∧ ∀ y ∈ out, y ∈ s ∨ y = ⟨a, b⟩ := by
 unfold ii7
 refine sR7 (by omega) ?_
 obtain ⟨d, out, h1, h2, h3⟩ := iK7 (gl := cs7 a b) (f := (⟨a, b⟩ : Tag)) (c1 := fun x => !slt x.key a) (c2 := fun x => !seq x.key a) (fun _ _ _ => rfl) (fun _ _ _ _ _ => rfl) s 0 false [] (by simp; omega)
 exact ⟨d, out, h1, by simpa using h2, fun y hy => by simpa using h3 y hy⟩
def bF (k : Nat) (f : Feat) : Prop := (f.id.size ≤ 7 ∧ f.id.size ≠ 2) ∧ f.shape.pts.length ≤ 20 + k ∧ f.tags.length ≤ 20 + k ∧ ∀ t ∈ f.tags, t.key.size ≤ 7 ∧ t.val.size ≤ 7
def bS (k : Nat) (s : List Feat) : Prop := s.length ≤ 20 + k ∧ ∀ f ∈ s, bF k f
theorem LO7 {k : Nat} {f : Feat} (h : bF k f) : bF (k + 1) f := ⟨h.1, by have := h.2.1; omega, by have := h.2.2.1; omega, h.2.2.2⟩
theorem jp7 {α : Type} {w : α → Nat} {n : Nat} : ∀ {xs : List α}, (∀ x ∈ xs, w x ≤ n) → ie7 w xs ≤ n * xs.length
 | [], h => by simp [ie7]
 | x :: xs, h => by
  have h1 := h x (by simp)
  have h2 := jp7 (xs := xs) (n := n) fun y hy => h y (by simp [hy])
  simp only [ie7, List.length_cons, Nat.mul_add, Nat.mul_one]
  omega
theorem Qs7 {k : Nat} {f : Feat} (h : bF k f) (hk : k ≤ 4) : aZ7 f ≤ 400 := by
 obtain ⟨⟨h1, _⟩, h2, h3, h4⟩ := h
 have := jp7 (w := sr7) (n := 14) (xs := f.tags) fun t ht => by have := h4 t ht; unfold sr7; omega
 unfold aZ7 g77 wL
 rw [p87]
 omega
theorem Qt7 {k : Nat} {s : List Feat} (h : bS k s) (hk : k ≤ 4) : wL aZ7 s ≤ 10000 := by
 have h1 := h.1
 have := jp7 (w := aZ7) (n := 400) (xs := s) fun f hf => Qs7 (h.2 f hf) hk
 unfold wL
 omega
theorem sS7 : Drw lH7 1 fun s => s.size ≤ 7 ∧ s.size ≠ 2 := fun b p hb h0 hp => by
 unfold lH7
 obtain ⟨x, p1, h1, a1, b1, hx⟩ := sP7 (l := _) (List.cons_ne_nil _ _) b p hb h0 hp
 simp only at h1
 rw [h1]
 exact ⟨x, p1, rfl, a1, b1, (by decide : ∀ y ∈ _, y.size ≤ 7 ∧ y.size ≠ 2) x hx⟩
theorem ut7 : Drw nF7 1 fun s => s.size ≤ 7 := fun b p hb h0 hp => by
 unfold nF7
 obtain ⟨x, p1, h1, a1, b1, hx⟩ := sP7 (l := _) (List.cons_ne_nil _ _) b p hb h0 hp
 simp only at h1
 rw [h1]
 exact ⟨x, p1, rfl, a1, b1, (by decide : ∀ y ∈ _, y.size ≤ 7) x hx⟩
theorem uu7 : Drw nG7 1 fun s => s.size ≤ 7 := fun b p hb h0 hp => by
 unfold nG7
 obtain ⟨x, p1, h1, a1, b1, hx⟩ := sP7 (l := _) (List.cons_ne_nil _ _) b p hb h0 hp
 simp only at h1
 rw [h1]
 exact ⟨x, p1, rfl, a1, b1, (by decide : ∀ y ∈ _, y.size ≤ 7) x hx⟩
theorem yj7 : Drw q77 1 fun s => s ∈ [(⟨#[109, 97, 105, 110]⟩ : Str), (⟨#[97, 110, 110]⟩ : Str), (⟨#[98, 111, 98]⟩ : Str)] := fun b p hb h0 hp => by
 unfold q77
 obtain ⟨x, p1, h1, a1, b1, hx⟩ := sP7 (l := _) (List.cons_ne_nil _ _) b p hb h0 hp
 simp only at h1
 rw [h1]
 exact ⟨x, p1, rfl, a1, b1, hx⟩
abbrev onS : Str := ⟨#[111, 110]⟩
def nt (s : Str) : Prop := s.size ≤ 7 ∧ s ≠ onS
theorem E57 {s : Str} (h : (decide (s.size ≤ 7) && !decide (s = onS)) = true) : nt s := by simpa [nt] using h
theorem yk7 : Drw rc7 1 fun s => nt s := fun b p hb h0 hp => by
 unfold rc7
 obtain ⟨x, p1, h1, a1, b1, hx⟩ := sP7 (l := _) (List.cons_ne_nil _ _) b p hb h0 hp
 simp only at h1
 rw [h1]
 refine ⟨x, p1, rfl, a1, b1, E57 ?_⟩
 simp only [List.mem_cons, List.not_mem_nil, or_false] at hx
 rcases hx with rfl | rfl | rfl <;> decide
theorem yl7 : Drw q17 33 fun s => s.pts.length ≤ 13 := fun b p hb h0 hp => by
 obtain ⟨s, p1, h1, a1, b1, hs1, hs2⟩ := nP7 b p hb h0 (by omega)
 obtain ⟨k, p2, h2, a2, b2, hk1, hk2⟩ := bt7 (n := (s.pts.length : Int)) b p1 hb (by omega) (by omega)
 obtain ⟨c, p3, h3, a3, b3, _⟩ := bt7 (n := 40) b p2 hb (by omega) (by omega)
 have hk2 := hk2 (by omega)
 unfold q17
 simp only at h2 h3
 simp only [h1, Option.bind_some, h2, h3]
 obtain ⟨y, hy⟩ := f87 (xs := s.pts) (i := k.toNat) (by omega)
 have hy' : idx s.pts k = some y := by rw [ck7 hk1]; exact hy
 by_cases c0 : (c == 0) = true
 ·rw [if_pos c0]
  obtain ⟨x, p4, h4, a4, b4, _⟩ := rD7 (l := [0, 4, 1, 2, 3]) (by simp) b p3 hb (by omega) (by omega)
  simp only at h4
  rw [h4]
  exact ⟨_, p4, rfl, by omega, by omega, by simp only; omega⟩
 rw [if_neg c0]
 by_cases c1 : (c == 1) = true
 ·rw [if_pos c1]
  obtain ⟨x, p4, h4, a4, b4, _⟩ := rD7 (l := [1000, 1001, -1001]) (by simp) b p3 hb (by omega) (by omega)
  simp only at h4
  rw [h4, Option.bind_some, hy']
  exact ⟨_, p4, rfl, by omega, by omega, by simp only [List.length_set]; omega⟩
 rw [if_neg c1]
 by_cases c2 : (c == 2) = true
 ·rw [if_pos c2, cc7 (by omega) (by omega), ao7]
  obtain ⟨z, hz⟩ := f87 (xs := s.pts) (i := s.pts.length - 1) (by omega)
  rw [hz, Option.bind_some, if_pos (aa7 (by simp; omega))]
  exact ⟨_, p3, rfl, by omega, by omega, by simp; omega⟩
 rw [if_neg c2]
 by_cases c3 : (c == 3) = true
 ·rw [if_pos c3]
  unfold slc
  rw [if_pos ⟨by omega, hk1, by omega⟩]
  exact ⟨_, p3, rfl, by omega, by omega, by simp; omega⟩
 rw [if_neg c3]
 exact ⟨_, p3, rfl, by omega, by omega, by omega⟩
def bT (n : Nat) (ts : List Tag) : Prop := ts.length ≤ n ∧ ∀ t ∈ ts, t.key.size ≤ 7 ∧ t.val.size ≤ 7
theorem lX7 (a : Rd) (hb : a.b.length ≤ 2000) : ∀ (m n : Nat) (i p : Int) (ts : List Tag) (q : Nat), m < n → i = m → bT q ts → q + m ≤ 100 → 0 ≤ p → p + 2 * m ≤ 100000 → m ≤ 100 → ∃ ts' p', er7 a n i p ts = some (ts', p') ∧ p ≤ p' ∧ p' ≤ p + 2 * m ∧ bT (q + m) ts'
 | _, 0, _, _, _, _, h, _, _, _, _, _, _ => by omega
 | 0, n + 1, i, p, ts, q, h, hi, ht, hq, hp, hk, hm => by
  unfold er7
  rw [if_neg (by simp; omega)]
  exact ⟨ts, p, rfl, by omega, by omega, ht⟩
 | m + 1, n + 1, i, p, ts, q, h, hi, ht, hq, hp, hk, hm => by
  unfold er7
  rw [if_pos (by simp; omega)]
  obtain ⟨k, p1, h1, a1, b1, c1⟩ := ut7 a.b p hb hp (by omega)
  obtain ⟨v, p2, h2, a2, b2, c2⟩ := uu7 a.b p1 hb (by omega) (by omega)
  obtain ⟨o, h3, h4, h5⟩ := us7 (s := ts) (a := k) (b := v) (by have := ht.1; omega)
  simp only [h1, Option.bind_some, h2, h3]
  rw [aM7 (by omega) (by omega)]
  have ht1 : ts.length ≤ q := ht.1
  have ho : o.length ≤ q + 1 := by omega
  obtain ⟨ts', p', g1, g2, g3, g4⟩ := lX7 a hb m n (i - 1) p2 o (q + 1) (by omega) (by omega) ⟨ho, fun t hh => by
   rcases h5 t hh with h | h
   ·exact ht.2 t h
   ·subst h; exact ⟨c1, c2⟩⟩ (by omega) (by omega) (by omega) (by omega)
  exact ⟨ts', p', g1, by omega, by omega, by rw [show q + (m + 1) = q + 1 + m by omega]; exact g4⟩
theorem lY7 {id : Str} (hid : id.size ≤ 7 ∧ id.size ≠ 2) : Drw (fun r => lI7 r id) 40 fun f => (f.id.size ≤ 7 ∧ f.id.size ≠ 2) ∧ f.shape.pts.length ≤ 12 ∧ bT 4 f.tags := fun b p hb h0 hp => by
 obtain ⟨s, p1, h1, a1, b1, hs1, hs2⟩ := nP7 b p hb h0 (by omega)
 obtain ⟨k, p2, h2, a2, b2, hk1, hk2⟩ := bt7 (n := 4) b p1 hb (by omega) (by omega)
 have hk2 := hk2 (by omega)
 simp only [lI7]
 simp only at h2
 simp only [h1, Option.bind_some, h2]
 obtain ⟨ts, p3, h3, a3, b3, c3⟩ := lX7 ⟨b, p⟩ hb k.toNat aP7 k p2 [] 0 (by unfold aP7; omega) (by omega) ⟨by simp, by simp⟩ (by omega) (by omega) (by omega) (by omega)
 rw [h3]
 exact ⟨_, p3, rfl, by omega, by omega, hid, hs2, (show ts.length ≤ 4 by have h := c3.1; have h' : ts.length ≤ 0 + k.toNat := h; omega), c3.2⟩
theorem ym7 : Drw q27 80 fun f => bF 0 f := fun b p hb h0 hp => by
 obtain ⟨i, p1, h1, a1, b1, hi⟩ := sS7 b p hb h0 (by omega)
 obtain ⟨f, p2, h2, a2, b2, f1, f2, f3, f4⟩ := lY7 hi b p1 hb (by omega) (by omega)
 obtain ⟨c, p3, h3, a3, b3, _⟩ := bt7 (n := 40) b p2 hb (by omega) (by omega)
 unfold q27
 simp only at h2 h3
 simp only [h1, Option.bind_some, h2, h3]
 by_cases c0 : (c == 0) = true
 ·rw [if_pos c0]
  obtain ⟨x, p4, h4, a4, b4, hx⟩ := sP7 (l := [(⟨#[]⟩ : Str), (⟨#[65]⟩ : Str), (⟨#[97, 98, 99, 100, 101, 102, 103]⟩ : Str)]) (by simp) b p3 hb (by omega) (by omega)
  simp only at h4
  rw [h4]
  exact ⟨_, p4, rfl, by omega, by omega, (by decide : ∀ y ∈ [(⟨#[]⟩ : Str), (⟨#[65]⟩ : Str), (⟨#[97, 98, 99, 100, 101, 102, 103]⟩ : Str)], y.size ≤ 7 ∧ y.size ≠ 2) x hx, by simp only; omega, by simp only; omega, f4⟩
 rw [if_neg c0]
 by_cases c1 : (c == 1) = true
 ·rw [if_pos c1]
  obtain ⟨x, p4, h4, a4, b4, hx⟩ := yl7 b p3 hb (by omega) (by omega)
  rw [h4]
  exact ⟨_, p4, rfl, by omega, by omega, f1, by simp only; omega, by simp only; omega, f4⟩
 rw [if_neg c1]
 by_cases c2 : (c == 2) = true
 ·rw [if_pos c2, if_pos (aa7 (by simp; omega))]
  refine ⟨_, p3, rfl, by omega, by omega, f1, by simp only; omega, by simp; omega, fun t ht => ?_⟩
  rcases List.mem_append.1 ht with h | h
  ·exact f4 t h
  ·simp only [List.mem_singleton] at h; subst h; exact ⟨by decide, by decide⟩
 rw [if_neg c2]
 by_cases c3 : (c == 3) = true
 ·rw [if_pos c3]
  obtain ⟨x, p4, h4, a4, b4, hx⟩ := sP7 (l := [(⟨#[]⟩ : Str), (⟨#[66]⟩ : Str)]) (by simp) b p3 hb (by omega) (by omega)
  simp only at h4
  rw [h4, Option.bind_some, if_pos (aa7 (by simp; omega))]
  refine ⟨_, p4, rfl, by omega, by omega, f1, by simp only; omega, by simp; omega, fun t ht => ?_⟩
  rcases List.mem_append.1 ht with h | h
  ·exact f4 t h
  ·simp only [List.mem_singleton] at h; subst h; exact ⟨(by decide : (⟨#[122, 122]⟩ : Str).size ≤ 7), (by decide : ∀ y ∈ [(⟨#[]⟩ : Str), (⟨#[66]⟩ : Str)], y.size ≤ 7) x hx⟩
 rw [if_neg c3]
 exact ⟨_, p3, rfl, by omega, by omega, f1, by simp only; omega, by simp only; omega, f4⟩
theorem j17 (a : Rd) (hb : a.b.length ≤ 2000) : ∀ (m n : Nat) (i p : Int) (s : List Feat), m < n → i = m → (s.length + m ≤ 20 ∧ ∀ f ∈ s, bF 0 f) → 0 ≤ p → p + 41 * m ≤ 100000 → ∃ s' p', es7 a n i p s = some (s', p') ∧ p ≤ p' ∧ p' ≤ p + 41 * m ∧ s'.length ≤ s.length + m ∧ ∀ f ∈ s', bF 0 f
 | _, 0, _, _, _, h, _, _, _, _ => by omega
 | 0, n + 1, i, p, s, h, hi, hs, hp, hk => by
  unfold es7
  rw [if_neg (by simp; omega)]
  exact ⟨s, p, rfl, by omega, by omega, by omega, hs.2⟩
 | m + 1, n + 1, i, p, s, h, hi, hs, hp, hk => by
  unfold es7
  rw [if_pos (by simp; omega)]
  obtain ⟨k, p1, h1, a1, b1, c1⟩ := sS7 a.b p hb hp (by omega)
  obtain ⟨f, p2, h2, a2, b2, f1, f2, f3, f4⟩ := lY7 c1 a.b p1 hb (by omega) (by omega)
  have hs1 := hs.1
  obtain ⟨o, h3, h4, h5⟩ := lW7 (s := s) (f := f) (by omega)
  simp only at h2
  simp only [h1, Option.bind_some, h2, h3]
  rw [aM7 (by omega) (by omega)]
  obtain ⟨s', p', g1, g2, g3, g4, g5⟩ := j17 a hb m n (i - 1) p2 o (by omega) (by omega) ⟨by omega, fun t hh => by
   rcases h5 t hh with h | h
   ·exact hs.2 t h
   ·subst h; exact ⟨f1, by omega, by omega, f4⟩⟩ (by omega) (by omega)
  exact ⟨s', p', g1, by omega, by omega, by omega, g5⟩
theorem nQ7 : Drw nJ7 170 fun s => s.length ≤ 4 ∧ ∀ f ∈ s, bF 0 f := fun b p hb h0 hp => by
 obtain ⟨k, p2, h2, a2, b2, hk1, hk2⟩ := bt7 (n := 5) b p hb (by omega) (by omega)
 have hk2 := hk2 (by omega)
 unfold nJ7
 simp only at h2
 simp only [h2, Option.bind_some]
 obtain ⟨s, p3, h3, a3, b3, c3, d3⟩ := j17 ⟨b, p⟩ hb k.toNat aP7 k p2 [] (by unfold aP7; omega) (by omega) ⟨by simp; omega, by simp⟩ (by omega) (by omega)
 rw [h3]
 simp only [List.length_nil] at c3
 exact ⟨s, p3, rfl, by omega, by omega, by omega, d3⟩
theorem lZ7 : ∀ (m n : Nat) (i : Int) (s : List Feat), m < n → 0 ≤ i → i + m = 9 → (s.length + m ≤ 20 ∧ ∀ f ∈ s, bF 0 f) → ∃ s', et7 n i s = some s' ∧ s'.length ≤ s.length + m ∧ ∀ f ∈ s', bF 0 f
 | _, 0, _, _, h, _, _, _ => by omega
 | 0, n + 1, i, s, h, h0, hi, hs => by
  unfold et7
  rw [if_neg (by simp; omega)]
  exact ⟨s, rfl, by omega, hs.2⟩
 | m + 1, n + 1, i, s, h, h0, hi, hs => by
  unfold et7
  rw [if_pos (by simp; omega), aM7 (by omega) (by omega)]
  have hs1 := hs.1
  have hz : (⟨#[113, 114, 115, 116, 117, 118, 119, 120, 121, 122]⟩ : Str).size = 10 := by decide
  have hx : ∃ x : Str, CI7 (⟨#[113, 114, 115, 116, 117, 118, 119, 120, 121, 122]⟩ : Str) i (i + 1) = some x ∧ x.size ≤ 7 ∧ x.size ≠ 2 := by
   unfold CI7
   rw [if_pos ⟨h0, by omega, by rw [hz]; omega⟩]
   refine ⟨_, rfl, ?_⟩
   rw [ByteArray.size_extract, hz]
   omega
  obtain ⟨x, hx1, hx2⟩ := hx
  obtain ⟨o, h3, h4, h5⟩ := lW7 (s := s) (f := ⟨x, ⟨1, [⟨0, 0⟩]⟩, []⟩) (by omega)
  rw [hx1, Option.bind_some, h3, Option.bind_some]
  obtain ⟨s', g1, g2, g3⟩ := lZ7 m n (i + 1) o (by omega) (by omega) (by omega) ⟨by omega, fun t hh => by
   rcases h5 t hh with h | h
   ·exact hs.2 t h
   ·subst h; exact ⟨hx2, by simp, by simp, by simp⟩⟩
  exact ⟨s', g1, by omega, g3⟩
theorem yn7 : Drw q37 260 fun s => bS 0 s := fun b p hb h0 hp => by
 obtain ⟨s, p1, h1, a1, b1, hs1, hs2⟩ := nQ7 b p hb h0 (by omega)
 obtain ⟨c, p2, h2, a2, b2, _⟩ := bt7 (n := 40) b p1 hb (by omega) (by omega)
 unfold q37
 simp only at h2
 simp only [h1, Option.bind_some, h2]
 by_cases c0 : (c == 0) = true
 ·rw [if_pos c0]
  obtain ⟨f, p3, h3, a3, b3, hf⟩ := ym7 b p2 hb (by omega) (by omega)
  rw [h3, Option.bind_some, if_pos (aa7 (by simp; omega))]
  refine ⟨_, p3, rfl, by omega, by omega, by simp; omega, fun t ht => ?_⟩
  rcases List.mem_append.1 ht with h | h
  ·exact hs2 t h
  ·simp only [List.mem_singleton] at h; subst h; exact hf
 rw [if_neg c0]
 by_cases c1 : (c == 1) = true
 ·rw [if_pos c1, if_pos (aa7 (by simp; omega))]
  exact ⟨_, p2, rfl, by omega, by omega, by simp; omega, fun t ht => by rcases List.mem_append.1 ht with h | h <;> exact hs2 t h⟩
 rw [if_neg c1]
 by_cases c2 : (c == 2) = true
 ·rw [if_pos c2]
  obtain ⟨s', g1, g2, g3⟩ := lZ7 9 aP7 0 s (by decide) (by omega) (by omega) ⟨by omega, hs2⟩
  rw [g1]
  exact ⟨s', p2, rfl, by omega, by omega, by omega, g3⟩
 rw [if_neg c2]
 exact ⟨s, p2, rfl, by omega, by omega, by omega, hs2⟩
theorem AR7 {s : aD7} {k : Nat} (hs : s.pts.length ≤ 20 + k) (hk : k ≤ 4) : Drw (fun r => ra7 r s) 4 fun z => z.pts.length ≤ 20 + (k + 1) := fun b p hb h0 hp => by
 simp only [ra7]
 by_cases hz : s.pts.length = 0
 ·rw [if_pos (by simp [hz])]
  exact ⟨s, p, rfl, by omega, by omega, by omega⟩
 rw [if_neg (by simpa using hz)]
 obtain ⟨x, p1, h1, a1, b1, hx1, hx2⟩ := bt7 (n := (s.pts.length : Int)) b p hb h0 (by omega)
 have hx2 := hx2 (by omega)
 obtain ⟨c, p2, h2, a2, b2, _⟩ := bt7 (n := 3) b p1 hb (by omega) (by omega)
 obtain ⟨t, p3, h3, a3, b3, _⟩ := sQ7 b p2 hb (by omega) (by omega)
 simp only at h1 h2
 have e1 : slc s.pts 0 x = some (s.pts.take x.toNat) := by
  unfold slc
  rw [if_pos ⟨by omega, hx1, by omega⟩]
  simp
 have e2 : slc s.pts x (s.pts.length : Int) = some (s.pts.drop x.toNat) := by
  unfold slc
  rw [if_pos ⟨hx1, by omega, by omega⟩]
  simp
 have e3 : slc s.pts (x + 1) (s.pts.length : Int) = some (s.pts.drop (x.toNat + 1)) := by
  unfold slc
  rw [if_pos ⟨by omega, by omega, by omega⟩]
  have : (x + 1).toNat = x.toNat + 1 := by omega
  simp [this]
 rw [h1, Option.bind_some, e1, Option.bind_some, if_pos (aa7 (by simp; omega)), h2, Option.bind_some]
 have key : ∃ q p4, (if (c == 0) = true then ((hc7 (⟨b, p2⟩ : Rd)).bind fun x43 => if aH7 (([] ++ s.pts.take x.toNat) ++ ([x43.1] : (List Pt))).length = true then (slc s.pts x (s.pts.length : Int)).bind fun x49 => if aH7 ((([] ++ s.pts.take x.toNat) ++ ([x43.1] : (List Pt))) ++ x49).length = true then some (((([] ++ s.pts.take x.toNat) ++ ([x43.1] : (List Pt))) ++ x49), x43.2) else none else none) else (if (c == 1) = true then ((slc s.pts (IntKind.i64.wrap (x + 1)) (s.pts.length : Int)).bind fun x54 => if aH7 (([] ++ s.pts.take x.toNat) ++ x54).length = true then some ((([] ++ s.pts.take x.toNat) ++ x54), p2) else none) else ((hc7 (⟨b, p2⟩ : Rd)).bind fun x59 => if aH7 (([] ++ s.pts.take x.toNat) ++ ([x59.1] : (List Pt))).length = true then (slc s.pts (IntKind.i64.wrap (x + 1)) (s.pts.length : Int)).bind fun x65 => if aH7 ((([] ++ s.pts.take x.toNat) ++ ([x59.1] : (List Pt))) ++ x65).length = true then some (((([] ++ s.pts.take x.toNat) ++ ([x59.1] : (List Pt))) ++ x65), x59.2) else none else none)) : Option ((List Pt) × Int)) = some (q, p4) ∧ q.length ≤ s.pts.length + 1 ∧ p2 ≤ p4 ∧ p4 ≤ p2 + 2 := by
  rw [aM7 (n := x + 1) (by omega) (by omega)]
  split
  ·rw [h3, Option.bind_some, if_pos (aa7 (by simp; omega)), e2, Option.bind_some, if_pos (aa7 (by simp; omega))]
   exact ⟨_, _, rfl, by simp; omega, a3, b3⟩
  ·split
   ·rw [e3, Option.bind_some, if_pos (aa7 (by simp; omega))]
    exact ⟨_, _, rfl, by simp; omega, by omega, by omega⟩
   ·rw [h3, Option.bind_some, if_pos (aa7 (by simp; omega)), e3, Option.bind_some, if_pos (aa7 (by simp; omega))]
    exact ⟨_, _, rfl, by simp; omega, a3, b3⟩
 obtain ⟨q, p4, g1, g2, g3, g4⟩ := key
 rw [g1, Option.bind_some, iH7 (by simp only; omega), Option.bind_some]
 by_cases ho : (!co7 ⟨s.kind, q⟩) = true
 ·rw [if_pos ho]
  exact ⟨s, p4, rfl, by omega, by omega, by omega⟩
 ·rw [if_neg ho]
  exact ⟨⟨s.kind, q⟩, p4, rfl, by omega, by omega, by simp only; omega⟩
theorem Fz7 {α : Type} {p : α → Nat → Bool} {l : List α} {k : Nat} (h : bp7 p l k = true) {x : α} (hx : x ∈ l) : ∃ j, p x j = true := by
 obtain ⟨j, hj⟩ := List.getElem?_of_mem hx
 exact ⟨_, c87 h j x hj⟩
theorem ci7 {s : Str} (h : by7 s = true) : s.size ≤ 7 := by
 simp only [by7, Bool.and_eq_true, decide_eq_true_eq] at h
 omega
theorem yo7 {s : List Feat} (hn : ∀ f ∈ s, f.id.size ≠ 2) (h : aN7 s = true) : bS 0 s := by
 simp only [aN7, Bool.and_eq_true, decide_eq_true_eq] at h
 refine ⟨by omega, fun f hf => ?_⟩
 obtain ⟨j, hj⟩ := Fz7 h.1 hf
 simp only [Bool.and_eq_true] at hj
 have h1 := hj.1
 simp only [bj7, co7, j77, Bool.and_eq_true, decide_eq_true_eq] at h1
 refine ⟨⟨ci7 h1.1, hn f hf⟩, by omega, by omega, fun t ht => ?_⟩
 obtain ⟨i, hi⟩ := Fz7 h1.2.2.1 ht
 simp only [Bool.and_eq_true] at hi
 exact ⟨ci7 hi.1, ci7 hi.2.1⟩
theorem oY7 {c : Feat → Bool} {gl : List Feat → Nat → List Feat → Option (List Feat)} (h0 : ∀ k v, gl [] k v = some v) (h1 : ∀ x l k v, gl (x :: l) k v = if c x = true then (if aH7 (v ++ [x]).length = true then gl l (k + 1) (v ++ [x]) else none) else gl l (k + 1) v) : ∀ (l : List Feat) (k : Nat) (v : List Feat), v.length + l.length ≤ 1000 → ∃ o, gl l k v = some o ∧ o.length ≤ v.length + l.length ∧ ∀ y ∈ o, y ∈ v ∨ y ∈ l
 | [], k, v, hl => ⟨v, h0 k v, by simp, fun y hy => .inl hy⟩
 | x :: l, k, v, hl => by
  simp only [List.length_cons] at hl
  rw [h1]
  by_cases hc : c x = true
  ·rw [if_pos hc, if_pos (aa7 (by simp; omega))]
   obtain ⟨o, g1, g2, g3⟩ := oY7 h0 h1 l (k + 1) (v ++ [x]) (by simp; omega)
   refine ⟨o, g1, by simp only [List.length_append, List.length_cons, List.length_nil] at g2 ⊢; omega, fun y hy => ?_⟩
   rcases g3 y hy with h | h
   ·rcases List.mem_append.1 h with h | h
    ·exact .inl h
    ·simp at h; simp [h]
   ·simp [h]
  ·rw [if_neg hc]
   obtain ⟨o, g1, g2, g3⟩ := oY7 h0 h1 l (k + 1) v (by omega)
   exact ⟨o, g1, by simp only [List.length_cons]; omega, fun y hy => (g3 y hy).imp id fun h => by simp [h]⟩
theorem AS7 {s : List Feat} {id : Str} (h : s.length ≤ 1000) : ∃ o, q87 s id = some o ∧ o.length ≤ s.length ∧ ∀ y ∈ o, y ∈ s := by
 unfold q87
 rw [if_pos (aa7 (by omega))]
 obtain ⟨o, h1, h2, h3⟩ := oY7 (gl := fJ7 id) (c := fun x => !seq x.id id) (fun _ _ => rfl) (fun _ _ _ _ => rfl) s 0 [] (by simp; omega)
 rw [h1]
 exact ⟨o, rfl, by simpa using h2, fun y hy => by simpa using h3 y hy⟩
theorem iL7 {α : Type} {p : α → Bool} : ∀ {l : List α} {k : Nat}, a97 p l k = -1 ∨ (k : Int) ≤ a97 p l k ∧ a97 p l k < (k + l.length : Nat)
 | [], k => .inl rfl
 | x :: l, k => by
  simp only [a97]
  split
  ·exact .inr ⟨by omega, by simp only [List.length_cons]; omega⟩
  ·rcases iL7 (p := p) (l := l) (k := k + 1) with h | h
   ·exact .inl h
   ·exact .inr ⟨by omega, by simp only [List.length_cons]; omega⟩
theorem yp7 {s : List Feat} {id : Str} (h : s.length ≤ 1000) : ∃ v, jT7 s id = some v ∧ (v < 0 ∨ 0 ≤ v ∧ v < s.length) := by
 unfold jT7
 rw [if_pos (aa7 (by omega))]
 refine ⟨_, mr7 (gl := d97 id) (p := fun x => seq x.id id) (ok := fun _ => True) (fun _ => rfl) (fun _ _ _ _ => rfl) s 0 (fun _ _ => trivial), ?_⟩
 rcases iL7 (p := fun x : Feat => seq x.id id) (l := s) (k := 0) with h | h
 ·left; omega
 ·right; simpa using h
theorem hF7 (a : Rd) (hb : a.b.length ≤ 2000) : ∀ (m n : Nat) (s : List Feat) (i p : Int) (k : Nat), m < n → i = m → bS k s → k + m ≤ 3 → 0 ≤ p → p + 50 * m ≤ 100000 → ∃ s' p', ct7 a n s i p = some (s', p') ∧ p ≤ p' ∧ p' ≤ p + 50 * m ∧ bS (k + m) s'
 | _, 0, _, _, _, _, h, _, _, _, _, _ => by omega
 | 0, n + 1, s, i, p, k, h, hi, hs, hk, hp, hq => by
  unfold ct7
  rw [if_neg (by simp; omega)]
  exact ⟨s, p, rfl, by omega, by omega, hs⟩
 | m + 1, n + 1, s, i, p, k, h, hi, hs, hk, hp, hq => by
  unfold ct7
  rw [if_pos (by simp; omega), aM7 (n := i - 1) (by omega) (by omega)]
  have hs1 : s.length ≤ 20 + k := hs.1
  have step : ∀ (f : Feat) (p1 : Int), bF (k + 1) f → p ≤ p1 → p1 ≤ p + 50 → ∃ o s' p', fV7 s f = some o ∧ ct7 a n o (i - 1) p1 = some (s', p') ∧ p ≤ p' ∧ p' ≤ p + 50 * (m + 1) ∧ bS (k + (m + 1)) s' := fun f p1 hf q1 q2 => by
   obtain ⟨o, o1, o2, o3⟩ := AQ7 (s := s) (f := f) (by omega)
   obtain ⟨s', p', g1, g2, g3, g4⟩ := hF7 a hb m n o (i - 1) p1 (k + 1) (by omega) (by omega) ⟨by omega, fun t ht => by
    rcases o3 t ht with h | h
    ·exact LO7 (hs.2 t h)
    ·subst h; exact hf⟩ (by omega) (by omega) (by omega)
   exact ⟨o, s', p', o1, g1, by omega, by omega, by rw [show k + (m + 1) = k + 1 + m by omega]; exact g4⟩
  obtain ⟨id, p1, h1, a1, b1, c1⟩ := sS7 a.b p hb hp (by omega)
  obtain ⟨v, h2, hv⟩ := yp7 (s := s) (id := id) (by omega)
  rw [h1, Option.bind_some]
  simp only
  rw [h2, Option.bind_some]
  by_cases hneg : v < 0
  ·rw [if_pos (by simpa using hneg)]
   obtain ⟨f, p2, h3, a3, b3, f1, f2, f3, f4⟩ := lY7 c1 a.b p1 hb (by omega) (by omega)
   simp only at h3
   obtain ⟨o, s', p', e1, e2, e3, e4, e5⟩ := step f p2 ⟨f1, by omega, by omega, f4⟩ (by omega) (by omega)
   simp only [h3, Option.bind_some, e1]
   exact ⟨s', p', e2, e3, by omega, e5⟩
  ·rw [if_neg (by simpa using hneg)]
   have hv := hv.resolve_left hneg
   obtain ⟨c, p2, h3, a3, b3, _⟩ := bt7 (n := 4) a.b p1 hb (by omega) (by omega)
   simp only at h3
   rw [h3, Option.bind_some]
   simp only
   obtain ⟨f, hf⟩ := f87 (xs := s) (i := v.toNat) (by omega)
   have hf' : idx s v = some f := by rw [ck7 hv.1]; exact hf
   have hbf := hs.2 f (List.mem_of_getElem? hf)
   by_cases c0 : (c == 0) = true
   ·rw [if_pos c0]
    obtain ⟨o, o1, o2, o3⟩ := AS7 (s := s) (id := id) (by omega)
    rw [o1, Option.bind_some]
    obtain ⟨s', p', g1, g2, g3, g4⟩ := hF7 a hb m n o (i - 1) p2 (k + 1) (by omega) (by omega) ⟨by omega, fun t ht => LO7 (hs.2 t (o3 t ht))⟩ (by omega) (by omega) (by omega)
    exact ⟨s', p', g1, by omega, by omega, by rw [show k + (m + 1) = k + 1 + m by omega]; exact g4⟩
   rw [if_neg c0]
   obtain ⟨c2, p3, h4, a4, b4, _⟩ := bt7 (n := 2) a.b p2 hb (by omega) (by omega)
   simp only at h4
   rw [h4, Option.bind_some]
   simp only
   have hcp : g97 f = some f := kz7 (by have := Qs7 hbf (by omega); omega)
   by_cases c1' : (c2 == 0) = true
   ·rw [if_pos c1']
    obtain ⟨x, p4, h5, a5, b5, x1⟩ := ut7 a.b p3 hb (by omega) (by omega)
    obtain ⟨y, p5, h6, a6, b6, y1⟩ := uu7 a.b p4 hb (by omega) (by omega)
    obtain ⟨ts, t1, t2, t3⟩ := us7 (s := f.tags) (a := x) (b := y) (by have := hbf.2.2.1; omega)
    obtain ⟨o, s', p', e1, e2, e3, e4, e5⟩ := step ⟨f.id, f.shape, ts⟩ p5 ⟨hbf.1, by have := hbf.2.1; simp only; omega, by have := hbf.2.2.1; simp only; omega, fun t ht => by
     rcases t3 t ht with h | h
     ·exact hbf.2.2.2 t h
     ·subst h; exact ⟨x1, y1⟩⟩ (by omega) (by omega)
    simp only [hf', Option.bind_some, hcp, h5, h6, t1, e1]
    exact ⟨s', p', e2, e3, by omega, e5⟩
   ·rw [if_neg c1']
    obtain ⟨z, p4, h5, a5, b5, z1⟩ := AR7 (s := f.shape) (k := k) hbf.2.1 (by omega) a.b p3 hb (by omega) (by omega)
    simp only at h5
    obtain ⟨o, s', p', e1, e2, e3, e4, e5⟩ := step ⟨f.id, z, f.tags⟩ p4 ⟨hbf.1, z1, by have := hbf.2.2.1; simp only; omega, hbf.2.2.2⟩ (by omega) (by omega)
    simp only [hf', Option.bind_some, hcp]
    rw [h5]
    simp only [Option.bind_some, e1]
    exact ⟨s', p', e2, e3, by omega, e5⟩
theorem yq7 {s : List Feat} (hs : bS 0 s) : Drw (fun r => rb7 r s) 151 fun o => bS 0 o := fun b p hb h0 hp => by
 obtain ⟨c, p1, h1, a1, b1, c1, c2⟩ := bt7 (n := 3) b p hb h0 (by omega)
 have c2 := c2 (by omega)
 simp only [rb7]
 simp only at h1
 rw [h1, Option.bind_some]
 simp only
 rw [aM7 (by omega) (by omega)]
 obtain ⟨o, p2, h2, a2, b2, d2⟩ := hF7 ⟨b, p⟩ hb (1 + c).toNat aP7 s (1 + c) p1 0 (by unfold aP7; omega) (by omega) hs (by omega) (by omega) (by omega)
 have hw : bS 3 o := by
  have h3 : o.length ≤ 20 + (0 + (1 + c).toNat) := d2.1
  exact ⟨by omega, fun f hf => by
   obtain ⟨q1, q2, q3, q4⟩ := d2.2 f hf
   exact ⟨q1, by omega, by omega, q4⟩⟩
 rw [h2, Option.bind_some, eW7 (by have := Qt7 hw (by omega); simp only; omega), Option.bind_some]
 by_cases ho : aN7 o = true
 ·simp only [ho]
  exact ⟨o, p2, rfl, by omega, by omega, yo7 (fun f hf => (d2.2 f hf).1.2) ho⟩
 ·rw [Bool.not_eq_true] at ho
  simp only [ho]
  exact ⟨s, p2, rfl, by omega, by omega, hs⟩
def nm3 : List Str := [(⟨#[109, 97, 105, 110]⟩ : Str), (⟨#[97, 110, 110]⟩ : Str), (⟨#[98, 111, 98]⟩ : Str)]
theorem uv7 {s : Str} (h : s ∈ nm3) : s.size ≤ 7 := (by decide : ∀ y ∈ nm3, y.size ≤ 7) s h
def bC0 (c : Commit) : Prop := c.up.length ≤ 3 ∧ bS 0 c.sheet ∧ c.note.size ≤ 7
def bC (c : Commit) : Prop := c.up.length ≤ 3 ∧ bS 0 c.sheet ∧ nt c.note
def bR (r : aF7) : Prop := (1 ≤ r.commits.length ∧ r.commits.length ≤ 12) ∧ (1 ≤ r.heads.length ∧ r.heads.length ≤ 5) ∧ (∀ c ∈ r.commits, bC c) ∧ ∀ h ∈ r.heads, h.name ∈ nm3
def gR (r : aF7) : Prop := bR r ∧ r.heads.length ≤ 4 ∧ (∀ h ∈ r.heads, 0 ≤ h.at_ ∧ h.at_ < (r.commits.length : Int)) ∧ ∀ c ∈ r.commits, c.up.length ≤ 2
theorem PJ7 {c : Commit} (h : bC0 c) : aX7 c ≤ 10020 := by
 obtain ⟨h1, h2, h3⟩ := h
 have := Qt7 h2 (by omega)
 unfold aX7
 simp only [wL, p87] at this ⊢
 omega
theorem Qu7 {c : Commit} (h : bC c) : aX7 c ≤ 10020 := PJ7 ⟨h.1, h.2.1, h.2.2.1⟩
theorem PK7 {r : aF7} (h : bR r) : cj7 r ≤ 200000 := by
 obtain ⟨h1, h2, h3, h4⟩ := h
 have e1 := jp7 (w := aX7) (n := 10020) (xs := r.commits) fun c hc => Qu7 (h3 c hc)
 have e2 := jp7 (w := j67) (n := 7) (xs := r.heads) fun c hc => by have := uv7 (h4 c hc); unfold j67; omega
 unfold cj7 wL
 omega
theorem AT7 {x : aF7} {k : Int} {c : Commit} (hx : gR x) (hk0 : 0 ≤ k) (hk : k < x.heads.length) (hc : bC c) (hc2 : c.up.length ≤ 2) (hl : x.commits.length < 12) : ∃ y, qC7 x k c = some y ∧ gR y := by
 have hw := PK7 hx.1
 obtain ⟨⟨⟨g1, g2⟩, ⟨g3, g4⟩, g5, g6⟩, g7, g8, g9⟩ := hx
 unfold qC7
 rw [ui7 (by unfold cj7 at hw; omega), Option.bind_some]
 obtain ⟨h, hh⟩ := f87 (xs := x.heads) (i := k.toNat) (by omega)
 have hh' : idx x.heads k = some h := by rw [ck7 hk0]; exact hh
 have hn := g6 h (List.mem_of_getElem? hh)
 have set_ok : ∀ (m : Int) (z : Head), z ∈ x.heads.set k.toNat ⟨h.name, m⟩ → z ∈ x.heads ∨ z = ⟨h.name, m⟩ := fun m z hz => List.mem_or_eq_of_mem_set hz
 rcases iL7 (p := fun y : Commit => decide (y = c)) (l := x.commits) (k := 0) with hf | hf
 ·have e : gn7 x.commits c = -1 := hf
  rw [e, if_pos (by decide), yh7 (by have := Qu7 hc; omega), Option.bind_some, if_pos (aa7 (by simp; omega)), hh', Option.bind_some]
  refine ⟨_, rfl, ⟨⟨by simp, by simp; omega⟩, ⟨by simp; omega, by simp; omega⟩, fun d hd => ?_, fun z hz => ?_⟩, by simp; omega, fun z hz => ?_, fun d hd => by
   rcases List.mem_append.1 hd with h | h
   ·exact g9 d h
   ·simp only [List.mem_singleton] at h; subst h; exact hc2⟩
  ·rcases List.mem_append.1 hd with h | h
   ·exact g5 d h
   ·simp only [List.mem_singleton] at h; subst h; exact hc
  ·rcases set_ok _ z hz with h | h
   ·exact g6 z h
   ·subst h; exact hn
  ·rcases set_ok _ z hz with h | h
   ·have := g8 z h; simp only [List.length_append, List.length_singleton]; omega
   ·subst h; simp only [List.length_append, List.length_singleton]; omega
 ·have e : gn7 x.commits c = a97 (fun y : Commit => decide (y = c)) x.commits 0 := rfl
  rw [← e] at hf
  rw [if_neg (by simp; omega), hh', Option.bind_some]
  refine ⟨_, rfl, ⟨⟨g1, g2⟩, ⟨by simp; omega, by simp; omega⟩, g5, fun z hz => ?_⟩, by simp; omega, fun z hz => ?_, g9⟩
  ·rcases set_ok _ z hz with h | h
   ·exact g6 z h
   ·subst h; exact hn
  ·rcases set_ok _ z hz with h | h
   ·exact g8 z h
   ·subst h; simp only; omega
theorem l07 {hs : List Head} {n : Str} : bT7 hs n < 0 ∨ 0 ≤ bT7 hs n ∧ bT7 hs n < hs.length := by
 rcases iL7 (p := fun y : Head => decide (y.name = n)) (l := hs) (k := 0) with h | h
 ·left
  have e : bT7 hs n = -1 := h
  omega
 ·right
  have e : bT7 hs n = a97 (fun y : Head => decide (y.name = n)) hs 0 := rfl
  rw [← e] at h
  simpa using h
theorem yr7 {r : aF7} {n f : Str} (h : gR r) (hn : n ∈ nm3) (hl : 0 < (jo7 r n f).1.heads.length) : gR (jo7 r n f).1 := by
 unfold jo7 at hl ⊢
 split
 ·rename_i h0
  rw [if_pos h0] at hl
  split
  ·exact h
  ·rename_i h1
   rw [if_neg h1] at hl
   split
   ·exact h
   ·rename_i h2
    rw [if_neg h2] at hl
    obtain ⟨⟨⟨g1, g2⟩, ⟨g3, g4⟩, g5, g6⟩, g7, g8, g9⟩ := h
    have hm := l07 (hs := r.heads) (n := f)
    obtain ⟨z, hz⟩ := f87 (xs := r.heads) (i := (bT7 r.heads f).toNat) (by omega)
    have hz' : idx r.heads (bT7 r.heads f) = some z := by rw [ck7 (by omega)]; exact hz
    rw [hz']
    have hz8 := g8 z (List.mem_of_getElem? hz)
    refine ⟨⟨⟨g1, g2⟩, ⟨by simp, by simp; omega⟩, g5, fun y hy => ?_⟩, by simp; omega, fun y hy => ?_, g9⟩
    ·rcases List.mem_append.1 hy with h | h
     ·exact g6 y h
     ·simp only [List.mem_singleton] at h; subst h; exact hn
    ·rcases List.mem_append.1 hy with h | h
     ·exact g8 y h
     ·simp only [List.mem_singleton] at h; subst h; exact hz8
 ·rename_i h0
  rw [if_neg h0] at hl
  exact absurd hl (by decide)
theorem ys7 {x : aF7} (hx : gR x) : Drw (fun r => rd7 r x) 160 fun o => ∀ y, o = some y → gR y := fun b p hb h0 hp => by
 have hw := PK7 hx.1
 have hx' := hx
 obtain ⟨⟨⟨g1, g2⟩, ⟨g3, g4⟩, g5, g6⟩, g7, g8, g9⟩ := hx
 obtain ⟨nm, p1, h1, a1, b1, c1⟩ := yj7 b p hb h0 (by omega)
 simp only [rd7]
 rw [h1, Option.bind_some]
 simp only
 rw [ky7 (by omega), Option.bind_some]
 have hm := l07 (hs := x.heads) (n := nm)
 by_cases hneg : bT7 x.heads nm < 0
 ·rw [if_pos (by simpa using hneg)]
  obtain ⟨k, p2, h2, a2, b2, k1, k2⟩ := bt7 (n := (x.heads.length : Int)) b p1 hb (by omega) (by omega)
  have k2 := k2 (by omega)
  simp only at h2
  obtain ⟨z, hz⟩ := f87 (xs := x.heads) (i := k.toNat) (by omega)
  have hz' : idx x.heads k = some z := by rw [ck7 k1]; exact hz
  rw [h2, Option.bind_some]
  simp only
  rw [hz', Option.bind_some, rB7 (by omega) (by have := uv7 c1; omega), Option.bind_some]
  by_cases hl : 0 < (jo7 x nm z.name).1.heads.length
  ·rw [if_pos (by simpa using hl)]
   exact ⟨_, p2, rfl, by omega, by omega, fun y hy => by cases hy; exact yr7 hx' c1 hl⟩
  ·rw [if_neg (by simpa using hl)]
   exact ⟨_, p2, rfl, by omega, by omega, fun y hy => by cases hy⟩
 ·rw [if_neg (by simpa using hneg)]
  have hm := hm.resolve_left hneg
  obtain ⟨z, hz⟩ := f87 (xs := x.heads) (i := (bT7 x.heads nm).toNat) (by omega)
  have hz' : idx x.heads (bT7 x.heads nm) = some z := by rw [ck7 hm.1]; exact hz
  have hz8 := g8 z (List.mem_of_getElem? hz)
  obtain ⟨cm, hcm⟩ := f87 (xs := x.commits) (i := z.at_.toNat) (by omega)
  have hcm' : idx x.commits z.at_ = some cm := by rw [ck7 hz8.1]; exact hcm
  have hcb := g5 cm (List.mem_of_getElem? hcm)
  obtain ⟨sh, p2, h2, a2, b2, c2⟩ := yq7 hcb.2.1 b p1 hb (by omega) (by omega)
  obtain ⟨nt, p3, h3, a3, b3, c3⟩ := yk7 b p2 hb (by omega) (by omega)
  obtain ⟨k, p4, h4, a4, b4, k1, k2⟩ := bt7 (n := (x.heads.length : Int)) b p3 hb (by omega) (by omega)
  have k2 := k2 (by omega)
  simp only at h2 h3 h4
  obtain ⟨y, hy⟩ := f87 (xs := x.heads) (i := k.toNat) (by omega)
  have hy' : idx x.heads k = some y := by rw [ck7 k1]; exact hy
  rw [hz', Option.bind_some, hcm', Option.bind_some, h2, Option.bind_some]
  simp only
  rw [h3, Option.bind_some, Option.bind_some]
  simp only
  rw [h4, Option.bind_some]
  simp only
  rw [hy', Option.bind_some]
  obtain ⟨w, p5, h5, a5, b5, _⟩ := bt7 (n := 4) b p4 hb (by omega) (by omega)
  simp only at h5
  have key : ∃ up p6, ((if (y.at_ != z.at_) = true then ((bv7 (⟨b, p4⟩ : Rd) 4).bind fun x49 => if (x49.1 == 0) = true then (some ([z.at_, y.at_], x49.2)) else (some ([z.at_], x49.2))) else (some ([z.at_], p4)) : Option ((List Int) × Int))) = some (up, p6) ∧ up.length ≤ 2 ∧ p4 ≤ p6 ∧ p6 ≤ p4 + 1 := by
   split
   ·rw [h5, Option.bind_some]
    simp only
    split
    ·exact ⟨_, _, rfl, by simp, a5, b5⟩
    ·exact ⟨_, _, rfl, by simp, a5, b5⟩
   ·exact ⟨_, _, rfl, by simp, by omega, by omega⟩
  obtain ⟨up, p6, k1', k2', k3', k4'⟩ := key
  rw [k1', Option.bind_some]
  by_cases hl : 12 ≤ x.commits.length
  ·rw [if_pos (by simp; omega)]
   exact ⟨_, p6, rfl, by omega, by omega, fun y hy => by cases hy⟩
  ·rw [if_neg (by simp; omega), uo7 (by omega), Option.bind_some]
   obtain ⟨o, o1, o2⟩ := AT7 (k := bT7 x.heads nm) (c := ⟨up, sh, nt⟩) hx' hm.1 hm.2 ⟨by simp only; omega, c2, c3⟩ k2' (by omega)
   rw [o1]
   exact ⟨_, p6, rfl, by omega, by omega, fun y hy => by cases hy; exact o2⟩
theorem hG7 (a : Rd) (hb : a.b.length ≤ 2000) : ∀ (m n : Nat) (i p : Int) (cs : List Commit) (hs : List Head), m < n → i = m → gR ⟨cs, hs⟩ → 0 ≤ p → p + 160 * m ≤ 100000 → ∃ p' cs' hs', dG7 a n i p cs hs = some (p', cs', hs') ∧ p ≤ p' ∧ p' ≤ p + 160 * m ∧ gR ⟨cs', hs'⟩
 | _, 0, _, _, _, _, h, _, _, _, _ => by omega
 | 0, n + 1, i, p, cs, hs, h, hi, hg, hp, hq => by
  unfold dG7
  rw [if_neg (by simp; omega)]
  exact ⟨p, cs, hs, rfl, by omega, by omega, hg⟩
 | m + 1, n + 1, i, p, cs, hs, h, hi, hg, hp, hq => by
  unfold dG7
  rw [if_pos (by simp; omega), aM7 (n := i - 1) (by omega) (by omega)]
  obtain ⟨o, p1, h1, a1, b1, c1⟩ := ys7 hg a.b p hb hp (by omega)
  simp only at h1
  rw [h1, Option.bind_some]
  cases o with
  | none =>
   obtain ⟨p', cs', hs', e1, e2, e3, e4⟩ := hG7 a hb m n (i - 1) p1 cs hs (by omega) (by omega) hg (by omega) (by omega)
   exact ⟨p', cs', hs', e1, by omega, by omega, e4⟩
  | some y =>
   obtain ⟨p', cs', hs', e1, e2, e3, e4⟩ := hG7 a hb m n (i - 1) p1 y.commits y.heads (by omega) (by omega) (c1 y rfl) (by omega) (by omega)
   exact ⟨p', cs', hs', e1, by omega, by omega, e4⟩
theorem yt7 : Drw re7 1500 gR := fun b p hb h0 hp => by
 obtain ⟨s, p1, h1, a1, b1, s1, s2⟩ := nQ7 b p hb h0 (by omega)
 obtain ⟨k, p2, h2, a2, b2, k1, k2⟩ := bt7 (n := 7) b p1 hb (by omega) (by omega)
 have k2 := k2 (by omega)
 have hnew : q57 (⟨#[109, 97, 105, 110]⟩ : Str) = some (⟨[⟨[], [], (⟨#[98, 101, 103, 105, 110]⟩ : Str)⟩], [⟨(⟨#[109, 97, 105, 110]⟩ : Str), 0⟩]⟩, true) := by
  unfold q57
  rw [fN7 (by decide), Option.bind_some, (by decide : by7 (⟨#[109, 97, 105, 110]⟩ : Str) = true)]
  rfl
 simp only at h2
 unfold re7
 rw [hnew, Option.bind_some, h1, Option.bind_some]
 simp only
 rw [show idx [(⟨[], [], (⟨#[98, 101, 103, 105, 110]⟩ : Str)⟩ : Commit)] 0 = some ⟨[], [], (⟨#[98, 101, 103, 105, 110]⟩ : Str)⟩ from rfl, Option.bind_some, h2, Option.bind_some]
 simp only
 rw [aM7 (n := 2 + k) (by omega) (by omega)]
 have hg : gR ⟨List.set [(⟨[], [], (⟨#[98, 101, 103, 105, 110]⟩ : Str)⟩ : Commit)] (0 : Int).toNat ⟨[], s, (⟨#[98, 101, 103, 105, 110]⟩ : Str)⟩, [⟨(⟨#[109, 97, 105, 110]⟩ : Str), 0⟩]⟩ := by
  refine ⟨⟨⟨by simp, by simp⟩, ⟨by simp, by simp⟩, fun c hc => ?_, fun h hh => ?_⟩, by simp, fun h hh => ?_, fun c hc => ?_⟩
  ·have : c = ⟨[], s, (⟨#[98, 101, 103, 105, 110]⟩ : Str)⟩ := by simpa using hc
   subst this
   exact ⟨by simp, ⟨by simp only; omega, s2⟩, E57 (s := ⟨#[98, 101, 103, 105, 110]⟩) (by decide)⟩
  ·simp only [List.mem_singleton] at hh; subst hh; exact (List.mem_cons_self : (⟨#[109, 97, 105, 110]⟩ : Str) ∈ nm3)
  ·simp only [List.mem_singleton] at hh; subst hh; simp
  ·have : c = ⟨[], s, (⟨#[98, 101, 103, 105, 110]⟩ : Str)⟩ := by simpa using hc
   subst this
   simp
 obtain ⟨p3, cs, hs, h3, a3, b3, c3⟩ := hG7 ⟨b, p⟩ hb (2 + k).toNat aP7 (2 + k) p2 _ _ (by unfold aP7; omega) (by omega) hg (by omega) (by omega)
 rw [h3, Option.bind_some]
 simp only
 obtain ⟨w, p4, h4, a4, b4, _⟩ := bt7 (n := 4) b p3 hb (by omega) (by omega)
 simp only at h4
 rw [h4, Option.bind_some]
 simp only
 split
 ·by_cases hl : 1 < hs.length
  ·rw [if_pos (by simp; omega), cc7 (by omega) (by have := c3.2.1; simp only at this; omega)]
   unfold slc
   rw [if_pos ⟨by omega, by omega, by omega⟩]
   obtain ⟨⟨g1, ⟨g3, g4⟩, g5, g6⟩, g7, g8, g9⟩ := c3
   simp only at g3 g4 g7 g8 g6
   refine ⟨_, p4, rfl, by omega, by omega, ⟨g1, ⟨by simp; omega, by simp; omega⟩, g5, fun h hh => ?_⟩, by simp; omega, fun h hh => ?_, g9⟩
   ·exact g6 h (List.mem_of_mem_take (List.mem_of_mem_drop hh))
   ·exact g8 h (List.mem_of_mem_take (List.mem_of_mem_drop hh))
  ·rw [if_neg (by simp; omega)]
   exact ⟨_, p4, rfl, by omega, by omega, c3⟩
 ·exact ⟨_, p4, rfl, by omega, by omega, c3⟩
theorem AU7 {cs : List Commit} {i : Nat} {c y : Commit} (h : y ∈ cs.set i c) : y ∈ cs ∨ y = c := List.mem_or_eq_of_mem_set h
theorem oZ7 {r : aF7} {i : Nat} {c : Commit} (h : bR r) (hc : bC c) : bR ⟨r.commits.set i c, r.heads⟩ := by
 obtain ⟨g1, g2, g3, g4⟩ := h
 refine ⟨by simpa using g1, g2, fun y hy => ?_, g4⟩
 rcases AU7 hy with h | h
 ·exact g3 y h
 ·subst h; exact hc
theorem yu7 : Drw rf7 1800 bR := fun b p hb h0 hp => by
 obtain ⟨r, p1, h1, a1, b1, hg⟩ := yt7 b p hb h0 (by omega)
 have hr := hg.1
 have hr' := hr
 obtain ⟨⟨g1, g2⟩, ⟨g3, g4⟩, g5, g6⟩ := hr
 have g7 := hg.2.1
 obtain ⟨k, p2, h2, a2, b2, k1, k2⟩ := bt7 (n := (r.commits.length : Int)) b p1 hb (by omega) (by omega)
 have k2 := k2 (by omega)
 obtain ⟨c, p3, h3, a3, b3, _⟩ := bt7 (n := 48) b p2 hb (by omega) (by omega)
 simp only at h2 h3
 unfold rf7
 rw [h1, Option.bind_some]
 simp only
 rw [h2, Option.bind_some]
 simp only
 rw [h3, Option.bind_some, Option.bind_some]
 simp only
 obtain ⟨y, hy⟩ := f87 (xs := r.commits) (i := k.toNat) (by omega)
 have hy' : idx r.commits k = some y := by rw [ck7 k1]; exact hy
 have hyb := g5 y (List.mem_of_getElem? hy)
 obtain ⟨z, hz⟩ := f87 (xs := r.heads) (i := 0) (by omega)
 have hz' : idx r.heads 0 = some z := by rw [show (0 : Int) = ((0 : Nat) : Int) from rfl, ao7]; exact hz
 have hzb := g6 z (List.mem_of_getElem? hz)
 by_cases c0 : (c == 0) = true
 ·rw [if_pos c0]
  obtain ⟨x, p4, h4, a4, b4, _⟩ := rD7 (l := [-1, (r.commits.length : Int)]) (by simp) b p3 hb (by omega) (by omega)
  simp only at h4
  rw [h4, Option.bind_some, hz']
  refine ⟨_, p4, rfl, by omega, by omega, ⟨g1, g2⟩, ⟨by simp; omega, by simp; omega⟩, g5, fun h hh => ?_⟩
  rcases List.mem_or_eq_of_mem_set hh with h' | h'
  ·exact g6 h h'
  ·subst h'; exact hzb
 rw [if_neg c0]
 by_cases c1 : (c == 1) = true
 ·rw [if_pos c1, hy', Option.bind_some]
  have hup : y.up.length ≤ 2 := hg.2.2.2 y (List.mem_of_getElem? hy)
  rw [if_pos (aa7 (by simp; omega))]
  exact ⟨_, p3, rfl, by omega, by omega, oZ7 hr' ⟨by simp; omega, hyb.2.1, hyb.2.2⟩⟩
 rw [if_neg c1]
 by_cases c2 : (c == 2) = true
 ·rw [if_pos c2]
  obtain ⟨x, p4, h4, a4, b4, hx⟩ := yn7 b p3 hb (by omega) (by omega)
  rw [h4, Option.bind_some, hy']
  exact ⟨_, p4, rfl, by omega, by omega, oZ7 hr' ⟨hyb.1, hx, hyb.2.2⟩⟩
 rw [if_neg c2]
 by_cases c3 : (c == 3) = true
 ·rw [if_pos c3, hy']
  exact ⟨_, p3, rfl, by omega, by omega, oZ7 hr' ⟨hyb.1, hyb.2.1, E57 (s := ⟨#[]⟩) (by decide)⟩⟩
 rw [if_neg c3]
 by_cases c4 : (c == 4) = true
 ·rw [if_pos c4, hz', Option.bind_some, if_pos (aa7 (by simp; omega))]
  refine ⟨_, p3, rfl, by omega, by omega, ⟨g1, g2⟩, ⟨by simp, by simp; omega⟩, g5, fun h hh => ?_⟩
  rcases List.mem_append.1 hh with h' | h'
  ·exact g6 h h'
  ·simp only [List.mem_singleton] at h'; subst h'; exact hzb
 rw [if_neg c4]
 by_cases c5 : (c == 5) = true
 ·rw [if_pos c5, hy']
  exact ⟨_, p3, rfl, by omega, by omega, oZ7 hr' ⟨by simp, hyb.2.1, hyb.2.2⟩⟩
 rw [if_neg c5]
 exact ⟨r, p3, rfl, by omega, by omega, hr'⟩
theorem E67 (code : List UInt8) : ∃ b, qY7 code = some ⟨b, 0⟩ ∧ b.length ≤ 2000 := by
 unfold qY7
 split
 ·rename_i h
  have h' : (code.length : Int) > 2000 := by simpa using h
  unfold slc
  rw [if_pos ⟨by omega, by omega, by omega⟩]
  exact ⟨_, rfl, by simp; omega⟩
 ·rename_i h
  have h' : ¬ (code.length : Int) > 2000 := by simpa using h
  exact ⟨code, rfl, by omega⟩
theorem yv7 (code : List UInt8) : ∃ r a b, rg7 code = some (r, a, b) ∧ bR r := by
 obtain ⟨b, h0, hb⟩ := E67 code
 obtain ⟨r, p1, h1, a1, b1, hr⟩ := yu7 b 0 hb (by omega) (by omega)
 obtain ⟨v, p2, h2, a2, b2, _⟩ := bt7 (n := IntKind.i64.wrap ((r.commits.length : Int) + 1)) b p1 hb (by omega) (by omega)
 obtain ⟨w, p3, h3, a3, b3, _⟩ := bt7 (n := 9) b p2 hb (by omega) (by omega)
 obtain ⟨x, p4, h4, a4, b4, _⟩ := bt7 (n := IntKind.i64.wrap ((r.commits.length : Int) + 1)) b p3 hb (by omega) (by omega)
 obtain ⟨y, p5, h5, a5, b5, _⟩ := bt7 (n := 9) b p4 hb (by omega) (by omega)
 simp only at h2 h3 h4 h5
 unfold rg7
 simp only [h0, Option.bind_some, h1, h2, h3, h4, h5]
 exact ⟨r, _, _, rfl, hr⟩
theorem yw7 {α β : Type} {f : α → β} {p : β → Bool} : ∀ {l : List α} {k : Nat}, a97 (fun x => p (f x)) l k = a97 p (l.map f) k
 | [], k => rfl
 | x :: l, k => by
  simp only [List.map_cons, a97]
  split
  ·rfl
  ·exact yw7
theorem rE7 {hs : List Head} {n : Str} : bT7 hs n = a97 (fun x => decide (x = n)) (hs.map Head.name) 0 := yw7 (f := Head.name) (p := fun x => decide (x = n))
theorem sT7 {a b : List Head} {n : Str} (h : a.map Head.name = b.map Head.name) : bT7 a n = bT7 b n := by rw [rE7, rE7, h]
theorem yx7 {hs : List Head} {i : Nat} {h : Head} {v : Int} (hi : hs[i]? = some h) : (hs.set i ⟨h.name, v⟩).map Head.name = hs.map Head.name := by
 rw [List.map_set]
 apply List.ext_getElem?
 intro j
 rw [List.getElem?_set]
 split
 ·rename_i e
  subst e
  have := (List.getElem?_eq_some_iff.1 hi).1
  have e := (List.getElem?_eq_some_iff.1 hi).2
  simp [this, e]
 ·rfl
theorem yy7 {m : List Bool} {k : Nat} (h : fZ7 m k = true) : k < m.length := by
 unfold fZ7 at h
 rcases Nat.lt_or_ge k m.length with h1 | h1
 ·exact h1
 ·rw [List.getElem?_eq_none h1] at h
  cases h
theorem uw7 {m : List Bool} {a : Nat} : ∀ {b : Nat}, a ≤ b → cnt m a ≤ cnt m b
 | 0, h => by
  have : a = 0 := by omega
  subst this; exact Nat.le_refl _
 | b + 1, h => by
  rcases Nat.eq_or_lt_of_le h with rfl | h
  ·exact Nat.le_refl _
  ·have := uw7 (m := m) (a := a) (b := b) (by omega)
   simp only [cnt]
   omega
theorem nR7 {m : List Bool} : ∀ {l : List Commit} {k : Nat}, (f07 m l k).length + cnt m k = cnt m (k + l.length)
 | [], k => by simp [f07]
 | x :: l, k => by
  have ih := nR7 (m := m) (l := l) (k := k + 1)
  simp only [cnt] at ih
  rw [List.length_cons, show k + (l.length + 1) = k + 1 + l.length by omega]
  simp only [f07]
  split
  ·rename_i h
   rw [if_pos h] at ih
   simp only [List.length_cons]
   omega
  ·rename_i h
   rw [if_neg h] at ih
   omega
theorem nS7 {m : List Bool} : ∀ {l : List Commit} {k j : Nat} {x : Commit}, l[j]? = some x → fZ7 m (k + j) = true → (f07 m l k)[cnt m (k + j) - cnt m k]? = some (AP7 m x)
 | [], k, j, x, h, _ => by simp at h
 | y :: l, k, 0, x, h, ht => by
  simp only [List.getElem?_cons_zero, Option.some.injEq] at h
  subst h
  simp only [Nat.add_zero] at ht
  simp [f07, ht]
 | y :: l, k, j + 1, x, h, ht => by
  rw [show k + (j + 1) = k + 1 + j by omega] at ht ⊢
  have ih := nS7 (m := m) (l := l) (k := k + 1) (j := j) (by simpa using h) ht
  have hm := uw7 (m := m) (a := k + 1) (b := k + 1 + j) (by omega)
  simp only [cnt] at ih hm
  simp only [f07]
  split
  ·rename_i hk
   rw [if_pos hk] at ih hm
   rw [show cnt m (k + 1 + j) - cnt m k = cnt m (k + 1 + j) - (cnt m k + 1) + 1 by omega, List.getElem?_cons_succ]
   exact ih
  ·rename_i hk
   rw [if_neg hk] at ih
   exact ih
theorem yz7 {m : List Bool} : ∀ {n j : Nat}, j < cnt m n → ∃ k, k < n ∧ fZ7 m k = true ∧ cnt m k = j
 | 0, j, h => by simp [cnt] at h
 | n + 1, j, h => by
  by_cases hn : j < cnt m n
  ·obtain ⟨k, h1, h2, h3⟩ := yz7 hn
   exact ⟨k, by omega, h2, h3⟩
  ·simp only [cnt] at h
   split at h
   ·rename_i ht
    exact ⟨n, by omega, ht, by omega⟩
   ·omega
structure Kept (cs : List Commit) (m : List Bool) : Prop where
 hist : pc7 cs
 len : m.length = cs.length
 up : ∀ k x u, cs[k]? = some x → fZ7 m k = true → u ∈ x.up → fZ7 m u.toNat = true
section
variable {cs : List Commit} {m : List Bool}
theorem Kept.get (h : Kept cs m) {k : Nat} (hk : fZ7 m k = true) : ∃ x, cs[k]? = some x ∧ (f07 m cs 0)[cnt m k]? = some (AP7 m x) := by
 obtain ⟨x, hx⟩ := f87 (xs := cs) (i := k) (by rw [← h.len]; exact yy7 hk)
 have := nS7 (m := m) (l := cs) (k := 0) (j := k) hx (by simpa using hk)
 simp only [Nat.zero_add, cnt, Nat.sub_zero] at this
 exact ⟨x, hx, this⟩
theorem Kept.tot (h : Kept cs m) : (f07 m cs 0).length = cnt m cs.length := by
 have := nR7 (m := m) (l := cs) (k := 0)
 simp only [Nat.zero_add, cnt] at this
 exact this
theorem Kept.from (h : Kept cs m) {j : Nat} {y : Commit} (hy : (f07 m cs 0)[j]? = some y) : ∃ k x, fZ7 m k = true ∧ cnt m k = j ∧ cs[k]? = some x ∧ y = AP7 m x := by
 have := gy7 hy
 rw [h.tot] at this
 obtain ⟨k, h1, h2, h3⟩ := yz7 this
 obtain ⟨x, h4, h5⟩ := h.get h2
 rw [h3, hy] at h5
 exact ⟨k, x, h2, h3, h4, Option.some.inj h5⟩
theorem Kept.anc (h : Kept cs m) {a b : Nat} (ha : fZ7 m a = true) (hab : Anc cs a b) : fZ7 m b = true ∧ Anc (f07 m cs 0) (cnt m a) (cnt m b) := by
 induction hab with
 | refl => exact ⟨ha, .refl _⟩
 | up _ hx hu ih =>
  rename_i c x u _
  obtain ⟨x', h1, h2⟩ := h.get ih.1
  rw [hx] at h1
  cases h1
  refine ⟨h.up _ _ _ hx ih.1 hu, ?_⟩
  exact Anc.up (u := (cnt m u.toNat : Int)) ih.2 h2 (List.mem_map.2 ⟨u, hu, rfl⟩)
end
theorem jq7 {r : aF7} {k : Nat} {x : Commit} (hw : cj7 r ≤ 1048576) (hx : r.commits[k]? = some x) : wL aZ7 x.sheet ≤ 1048576 := by
 have := bR7 (w := aX7) (List.mem_of_getElem? hx)
 have h3 : wL aZ7 x.sheet ≤ aX7 x := by unfold aX7; omega
 unfold cj7 at hw
 have h4 : wL aX7 r.commits = r.commits.length + ie7 aX7 r.commits := rfl
 omega
structure Added (r : aF7) (n t : Str) (s : List Feat) (i : Nat) (z : Head) (x : Commit) (q : aF7) (k : Nat) : Prop where
 repo : cT7 r = true
 sheet : aN7 s = true
 word : by7 t = true
 hd : bT7 r.heads n = (i : Int)
 at_ : r.heads[i]? = some z
 name : z.name = n
 was : r.commits[z.at_.toNat]? = some x
 ge : 0 ≤ z.at_
 ne : x.sheet ≠ s
 eq : PH7 r n s t = (q, 0)
 heads : q.heads = r.heads.set i ⟨z.name, (k : Int)⟩
 comm : (q.commits = r.commits ∧ k < r.commits.length) ∨ (q.commits = r.commits ++ [⟨[z.at_], s, t⟩] ∧ k = r.commits.length ∧ r.commits.length < 14)
 get : q.commits[k]? = some ⟨[z.at_], s, t⟩
 repo' : cT7 q = true
section
variable {r q : aF7} {n t : Str} {s : List Feat} {i k : Nat} {z : Head} {x : Commit}
theorem Added.head (h : Added r n t s i z x q k) : bT7 q.heads n = (i : Int) ∧ q.heads[i]? = some ⟨z.name, (k : Int)⟩ := by
 rw [h.heads]
 refine ⟨?_, List.getElem?_set_self (gy7 h.at_)⟩
 rw [sT7 (yx7 h.at_)]
 exact h.hd
theorem Added.w (h : Added r n t s i z x q k) (hw : cj7 r ≤ 1000000) (hs : wL aZ7 s ≤ 20000) (ht : t.size ≤ 7) : cj7 q ≤ cj7 r + 20010 := by
 have h1 := LM7 (r := r) (n := n) (t := t) (s := s)
 rw [h.eq] at h1
 simp only at h1
 omega
end
theorem Anc.head' {cs : List Commit} {a b : Nat} (h : Anc cs a b) : a = b ∨ ∃ x u, cs[a]? = some x ∧ u ∈ x.up ∧ Anc cs u.toNat b := by
 induction h with
 | refl => exact .inl rfl
 | up h hx hu ih =>
  rename_i c x u
  rcases ih with rfl | ⟨y, v, h1, h2, h3⟩
  ·exact .inr ⟨x, u, hx, hu, .refl _⟩
  ·exact .inr ⟨y, v, h1, h2, h3.up hx hu⟩
theorem E77 {cs : List Commit} {k a j : Nat} {c : Commit} (hk : cs[k]? = some c) (hu : c.up = [(a : Int)]) : Anc cs k j ↔ k = j ∨ Anc cs a j := by
 constructor
 ·intro h
  rcases h.head' with h1 | ⟨x, u, h1, h2, h3⟩
  ·exact .inl h1
  ·rw [hk] at h1
   cases h1
   rw [hu] at h2
   simp only [List.mem_singleton] at h2
   subst h2
   exact .inr (by simpa using h3)
 ·rintro (rfl | h)
  ·exact .refl _
  ·have h1 : Anc cs k ((a : Int).toNat) := .up (.refl k) hk (by rw [hu]; simp)
   exact Anc.trans (by simpa using h1) h
theorem yA7 {cs e : List Commit} (hc : pc7 cs) {a b : Nat} (ha : a < cs.length) : Anc (cs ++ e) a b ↔ Anc cs a b := by
 constructor
 ·intro h
  have key : b < cs.length ∧ Anc cs a b := by
   induction h with
   | refl => exact ⟨ha, .refl _⟩
   | up h hx hu ih =>
    rename_i c x u
    rw [List.getElem?_append_left ih.1] at hx
    have := hc.lt _ _ hx u hu
    exact ⟨by omega, ih.2.up hx hu⟩
  exact key.2
 ·intro h
  induction h with
  | refl => exact .refl _
  | up h hx hu ih => exact ih.up (by rw [List.getElem?_append_left (gy7 hx)]; exact hx) hu
section
variable {r q : aF7} {n t : Str} {s : List Feat} {i k : Nat} {z : Head} {x : Commit}
end
theorem o07 {cs : List Commit} (h : dy7 cs = true) : ∀ (n a : Nat), a ≤ n → a < cs.length → Anc cs a 0
 | n, 0, _, _ => .refl 0
 | 0, a + 1, h1, _ => by omega
 | n + 1, a + 1, h1, h2 => by
  obtain ⟨c, hc⟩ := f87 h2
  have hu := (eV7 h hc).1
  have hlt := (EV7 hu).1
  simp only [mUp, Bool.and_eq_true, beq_iff_eq] at hu
  have h3 : decide (0 < c.up.length) = true := by rw [hu.2.2.1]; simp
  have h3 := of_decide_eq_true h3
  obtain ⟨u, hu0⟩ := f87 h3
  have hm := List.mem_of_getElem? hu0
  have h4 := hlt u hm
  exact (Anc.up (.refl (a + 1)) hc hm).trans (o07 h n u.toNat (by omega) (by omega))
theorem ev7 {r : aF7} (h : cT7 r = true) : dy7 r.commits = true := by
 unfold cT7 at h
 simp only [Bool.and_eq_true] at h
 exact h.2.2.2.2.1
open Classical in
theorem hH7 {r : aF7} {i k : Nat} (hw : cj7 r ≤ 1048576) (hr : cT7 r = true) (hi : i < r.commits.length) (hk : k < r.commits.length) : lJ7 r (i : Int) (k : Int) = some (decide (Anc r.commits k i)) := by
 have hl := ku7 hr
 unfold lJ7
 rw [uk7 hw, Option.bind_some, hr, if_pos rfl, gA7 (by omega), Option.bind_some, if_pos (by simp; omega), gA7 (by omega), Option.bind_some, if_pos (by simp; omega), um7 (dT7 hr) (by omega) hk, Option.bind_some, ao7, iF7 hi]
 rfl
theorem nT7 {p : Nat → Bool} : ∀ {n k : Nat}, k < n → p k = true → ∃ m : Nat, (eF7 p n).head? = some (m : Int) ∧ m < n ∧ p m = true ∧ ∀ j : Nat, m < j → j < n → p j = false
 | 0, k, h, _ => by omega
 | n + 1, k, h, hp => by
  simp only [eF7]
  by_cases hn : p n = true
  ·rw [if_pos hn]
   exact ⟨n, rfl, by omega, hn, fun j h1 h2 => by omega⟩
  ·rw [if_neg hn]
   have hk : k < n := by
    rcases Nat.lt_or_ge k n with h1 | h1
    ·exact h1
    ·have : k = n := by omega
     subst this
     exact absurd hp hn
   obtain ⟨m, h1, h2, h3, h4⟩ := nT7 hk hp
   exact ⟨m, h1, by omega, h3, fun j h5 h6 => by
    rcases Nat.lt_or_ge j n with h7 | h7
    ·exact h4 j h5 h7
    ·have : j = n := by omega
     subst this
     simpa using hn⟩
theorem kA7 {cs : List Commit} {a b k : Nat} : Com cs a b k ↔ Com cs b a k := ⟨fun h => ⟨h.2, h.1⟩, fun h => ⟨h.2, h.1⟩⟩
theorem yB7 {cs : List Commit} {a b k : Nat} : kw7 cs a b k ↔ kw7 cs b a k :=
 ⟨fun h => ⟨kA7.1 h.1, fun j hj => h.2 j (kA7.1 hj)⟩, fun h => ⟨kA7.1 h.1, fun j hj => h.2 j (kA7.1 hj)⟩⟩
theorem sU7 {cs : List Commit} {a b : Nat} : iE7 cs a b = iE7 cs b a := by
 unfold iE7
 refine lS7 fun k _ => ?_
 exact decide_eq_decide.2 yB7
theorem mF7 {r : aF7} {a b : Int} : bK7 r a b = bK7 r b a := by
 unfold bK7
 rw [Bool.and_comm, sU7]
theorem iM7 {r : aF7} {a b : Int} (h : ¬ (inR r a && inR r b) = true) : bK7 r a b = -1 := by
 unfold bK7
 rw [if_neg h]
 rfl
theorem ew7 {r : aF7} {a b : Nat} (hr : cT7 r = true) (ha : a < r.commits.length) (hb : b < r.commits.length) : ∃ k : Nat, bK7 r a b = (k : Int) ∧ k < r.commits.length ∧ Com r.commits a b k ∧ ∀ j, k < j → ¬ Com r.commits a b j := by
 have hc := dT7 hr
 have h1 : (inR r (a : Int) && inR r (b : Int)) = true := by unfold inR; rw [hr]; simp; omega
 have h0 : Com r.commits a b 0 := ⟨o07 (ev7 hr) _ a (Nat.le_refl _) ha, o07 (ev7 hr) _ b (Nat.le_refl _) hb⟩
 obtain ⟨i, hi, _⟩ := jn7 hc _ 0 (Nat.le_refl _) h0
 have hil : i < r.commits.length := by have := hi.1.1.le hc; omega
 obtain ⟨m, m1, m2, m3, m4⟩ := nT7 (p := fun k => @decide (kw7 r.commits a b k) (Classical.propDecidable _)) hil (by simpa using hi)
 refine ⟨m, ?_, m2, ?_, fun j hj hcm => ?_⟩
 ·unfold bK7
  rw [if_pos h1]
  simp only [Int.toNat_natCast]
  unfold iE7
  rw [m1]
  rfl
 ·have : kw7 r.commits a b m := by simpa using m3
  exact this.1
 ·obtain ⟨e, he, he2⟩ := jn7 hc _ j (Nat.le_refl _) hcm
  have h5 := he2.le hc
  have h6 : e < r.commits.length := by have := he.1.1.le hc; omega
  have h7 := m4 e (by omega) h6
  simp at h7
  exact h7 he
def nF : Feat := ⟨⟨#[]⟩, ⟨0, []⟩, []⟩
theorem kB7 {α : Type} {p : α → Bool} : ∀ (l : List α) (k : Nat), (l.find? p = none ∧ a97 p l k = -1) ∨ ∃ j x, l.find? p = some x ∧ a97 p l k = ((k + j : Nat) : Int) ∧ l[j]? = some x ∧ p x = true
 | [], k => .inl ⟨rfl, rfl⟩
 | y :: l, k => by
  simp only [List.find?_cons, a97]
  cases hp : p y
  ·rcases kB7 (p := p) l (k + 1) with ⟨h1, h2⟩ | ⟨j, x, h1, h2, h3, h4⟩
   ·exact .inl ⟨h1, by simpa using h2⟩
   ·exact .inr ⟨j + 1, x, h1, by simp only [h2]; simp; omega, h3, h4⟩
  ·exact .inr ⟨0, y, rfl, by simp, rfl, hp⟩
def a67 (s : List Feat) (id : Str) : Feat × Bool := match s.find? (fun f : Feat => decide (f.id = id)) with
 | some f => (f, true)
 | none => (nF, false)
theorem AV7 {s : List Feat} {id : Str} (hl : s.length ≤ 1048576) : qO7 s id = some (a97 (fun f : Feat => decide (f.id = id)) s 0) := by
 unfold qO7 t77
 have h := mr7 (gl := fE7 id) (p := fun f : Feat => decide (f.id = id)) (ok := fun _ => True) (fun _ => rfl) (fun x l k _ => by simp only [fE7, t67, bS7, Option.bind_some]) s 0 (fun _ _ => trivial)
 rw [if_pos (aa7 hl)]
 exact (congrArg (fun o => Option.bind o fun x2 => some x2) h)
theorem AW7 {s : List Feat} {id : Str} (hl : s.length ≤ 1048576) : jT7 s id = some (a97 (fun f : Feat => decide (f.id = id)) s 0) := by
 unfold jT7
 have h := mr7 (gl := d97 id) (p := fun f : Feat => decide (f.id = id)) (ok := fun _ => True) (fun _ => rfl) (fun x l k _ => by simp only [d97, bS7]) s 0 (fun _ _ => trivial)
 rw [if_pos (aa7 hl)]
 exact h
theorem LP7 {s : List Feat} {id : Str} (h : wL aZ7 s ≤ 1048576) : qP7 s id = some (a67 s id) := by
 have hl : s.length ≤ 1048576 := by unfold wL at h; omega
 unfold qP7 a67
 rw [AV7 hl, Option.bind_some]
 rcases kB7 (p := fun f : Feat => decide (f.id = id)) s 0 with ⟨h1, h2⟩ | ⟨j, x, h1, h2, h3, h4⟩
 ·rw [h1, h2]; rfl
 ·have hx := bR7 (w := aZ7) (List.mem_of_getElem? h3)
  rw [h1, h2, if_neg (by simp), ao7, Nat.zero_add, h3, Option.bind_some, hE7 (by unfold wL at h; omega)]
  rfl
theorem o17 {s : List Feat} {id : Str} (h : wL aZ7 s ≤ 1048576) : ly7 s id = some (a67 s id) := by
 have hl : s.length ≤ 1048576 := by unfold wL at h; omega
 unfold ly7 a67
 rw [AW7 hl, Option.bind_some]
 rcases kB7 (p := fun f : Feat => decide (f.id = id)) s 0 with ⟨h1, h2⟩ | ⟨j, x, h1, h2, h3, h4⟩
 ·rw [h1, h2]; rfl
 ·have hx := bR7 (w := aZ7) (List.mem_of_getElem? h3)
  rw [h1, h2, if_neg (by simp), ao7, Nat.zero_add, h3, Option.bind_some, kz7 (by unfold wL at h; omega)]
  rfl
def mG7 (s : List Feat) (id : Str) : List Feat := s.filter fun y => !decide (y.id = id)
def hL7 (f : Feat) : List Feat → List Feat
 | [] => [f]
 | x :: l => if slt x.id f.id = true then x :: hL7 f l else f :: mG7 (x :: l) f.id
theorem rF7 {a b : Str} (h : slt a b = true) : a ≠ b := fun e => by
 rw [e, slt_sw.irrefl] at h
 cases h
theorem jr7 {x : Feat} {l : List Feat} {id : Str} : mG7 (x :: l) id = if x.id = id then mG7 l id else x :: mG7 l id := by
 unfold mG7
 rw [List.filter_cons]
 by_cases h : x.id = id <;> simp [h]
theorem kC7 {f : Feat} : ∀ (l : List Feat) (k : Nat) (v : List Feat), v.length + l.length ≤ 1048576 → cr7 f l k true v = some (true, v ++ mG7 l f.id)
 | [], k, v, _ => by simp [cr7, mG7]
 | x :: l, k, v, h => by
  simp only [List.length_cons] at h
  simp only [cr7, bS7, Bool.not_true, Bool.false_eq_true, if_false, Option.bind_some]
  rw [jr7]
  by_cases e : x.id = f.id
  ·rw [if_neg (by simp [e]), kC7 l (k + 1) v (by omega), if_pos e]
  ·rw [if_pos (by simp [e]), if_pos (aa7 (by simp; omega)), kC7 l (k + 1) _ (by simp; omega), if_neg e]
   simp
theorem ux7 {f : Feat} : ∀ (l : List Feat) (k : Nat) (v : List Feat), v.length + l.length + 1 ≤ 1048576 → ∃ d o, cr7 f l k false v = some (d, o) ∧ (if d = true then o else o ++ [f]) = v ++ hL7 f l
 | [], k, v, _ => ⟨false, v, rfl, by simp [hL7]⟩
 | x :: l, k, v, h => by
  simp only [List.length_cons] at h
  simp only [cr7, bS7, Bool.not_false, if_true, hL7]
  by_cases e : slt x.id f.id = true
  ·have hn := rF7 e
   obtain ⟨d, o, h1, h2⟩ := ux7 l (k + 1) (v ++ [x]) (by simp; omega)
   refine ⟨d, o, ?_, by rw [h2, if_pos e]; simp⟩
   rw [if_neg (by simp [e]), Option.bind_some]
   simp only
   rw [if_pos (by simp [hn]), if_pos (aa7 (by simp; omega)), h1]
  ·rw [if_pos (by simpa using e), if_pos (aa7 (by simp; omega)), Option.bind_some]
   simp only
   rw [if_neg e, jr7]
   by_cases e2 : x.id = f.id
   ·rw [if_neg (by simp [e2]), kC7 l (k + 1) _ (by simp; omega), if_pos e2]
    exact ⟨true, _, rfl, by simp⟩
   ·rw [if_pos (by simp [e2]), if_pos (aa7 (by simp; omega)), kC7 l (k + 1) _ (by simp; omega), if_neg e2]
    exact ⟨true, _, rfl, by simp⟩
theorem iN7 {f : Feat} : ∀ (l : List Feat), (hL7 f l).length ≤ l.length + 1
 | [] => by simp [hL7]
 | x :: l => by
  have := iN7 (f := f) l
  have h2 : (mG7 (x :: l) f.id).length ≤ (x :: l).length := List.length_filter_le _ _
  unfold hL7
  split
  ·simp only [List.length_cons]; omega
  ·simp only [List.length_cons] at h2 ⊢; omega
theorem yC7 {s : List Feat} {f : Feat} (h : s.length + 1 ≤ 1048576) : fV7 s f = some (hL7 f s) := by
 obtain ⟨d, o, h1, h2⟩ := ux7 (f := f) s 0 [] (by simp; omega)
 have h3 := iN7 (f := f) s
 simp only [List.nil_append] at h2
 unfold fV7
 rw [if_pos (aa7 (by omega)), h1, Option.bind_some]
 cases d
 ·simp only [Bool.not_false, if_true]
  simp only [Bool.false_eq_true, if_false] at h2
  rw [if_pos (aa7 (by rw [h2]; omega)), h2]
 ·simp only [if_true] at h2
  simp [h2]
def Pw (v : List Feat) : Prop := v.Pairwise fun a b => slt a.id b.id = true
theorem uy7 {f : Feat} : ∀ {l : List Feat} {y : Feat}, y ∈ hL7 f l → y = f ∨ y ∈ l
 | [], y, h => by simpa [hL7] using h
 | x :: l, y, h => by
  unfold hL7 at h
  split at h
  ·rcases List.mem_cons.1 h with h | h
   ·exact .inr (by simp [h])
   ·rcases uy7 h with h | h
    ·exact .inl h
    ·exact .inr (by simp [h])
  ·rcases List.mem_cons.1 h with h | h
   ·exact .inl h
   ·exact .inr (List.mem_filter.1 h).1
theorem yD7 {f : Feat} : ∀ {l : List Feat}, Pw l → Pw (hL7 f l)
 | [], _ => by simp [hL7, Pw]
 | x :: l, h => by
  unfold Pw at h
  rw [List.pairwise_cons] at h
  unfold hL7
  by_cases e : slt x.id f.id = true
  ·rw [if_pos e]
   unfold Pw
   rw [List.pairwise_cons]
   refine ⟨fun y hy => ?_, yD7 h.2⟩
   rcases uy7 hy with rfl | hy
   ·exact e
   ·exact h.1 y hy
  ·rw [if_neg e]
   unfold Pw
   rw [List.pairwise_cons]
   refine ⟨fun y hy => ?_, List.Pairwise.filter _ (List.pairwise_cons.2 h)⟩
   obtain ⟨hy, hn⟩ := List.mem_filter.1 hy
   simp only [Bool.not_eq_true', decide_eq_false_iff_not] at hn
   have hf : slt x.id f.id = false := by simpa using e
   have hxy : slt y.id f.id = false := by
    rcases List.mem_cons.1 hy with rfl | hy
    ·exact hf
    ·cases h2 : slt y.id f.id
     ·rfl
     ·rw [slt_sw.trans _ _ _ (h.1 y hy) h2] at hf; cases hf
   cases h3 : slt f.id y.id
   ·exact absurd (ow7 hxy h3) hn
   ·rfl
theorem rG7 {f : Feat} : ∀ {l : List Feat}, (hL7 f l).Perm (f :: mG7 l f.id)
 | [] => by simp [hL7, mG7]
 | x :: l => by
  unfold hL7
  by_cases e : slt x.id f.id = true
  ·rw [if_pos e, jr7, if_neg (rF7 e)]
   exact (List.Perm.cons x rG7).trans (List.Perm.swap f x _)
  ·rw [if_neg e]
theorem o27 {v : List Feat} (h : Pw v) : (v.map (·.id)).Nodup := by
 unfold List.Nodup
 rw [List.pairwise_map]
 exact h.imp fun h => rF7 h
theorem dm7 {s : List Feat} (h : aN7 s = true) : Pw s := by
 unfold aN7 at h
 rw [Bool.and_eq_true] at h
 have key : ∀ k x y, s[k]? = some x → s[k + 1]? = some y → slt x.id y.id = true := by
  intro k x y hx hy
  have := c87 h.1 (k + 1) y hy
  simp only [Nat.zero_add, Bool.and_eq_true, Bool.or_eq_true, decide_eq_true_eq, ig7, Nat.add_sub_cancel, hx] at this
  rcases this.2 with h | h
  ·omega
  ·exact h
 clear h
 induction s with
 | nil => exact List.Pairwise.nil
 | cons a s ih =>
  have ih := ih fun k x y hx hy => key (k + 1) x y hx hy
  unfold Pw
  rw [List.pairwise_cons]
  refine ⟨?_, ih⟩
  cases s with
  | nil => intro y hy; cases hy
  | cons b s =>
   have h1 := key 0 a b rfl rfl
   have ih2 := ih
   unfold Pw at ih2
   rw [List.pairwise_cons] at ih2
   intro y hy
   rcases List.mem_cons.1 hy with rfl | hy
   ·exact h1
   ·exact slt_sw.trans _ _ _ h1 (ih2.1 y hy)
theorem nU7 {s : List Feat} {id : Str} : aZ7 (a67 s id).1 ≤ wL aZ7 s := by
 unfold a67
 split
 ·rename_i f hf
  have := bR7 (w := aZ7) (List.mem_of_find?_eq_some hf)
  unfold wL
  simp only
  omega
 ·exact Nat.zero_le _
theorem l17 {f : Feat} (h : bj7 f = true) : aZ7 f ≤ 100 := by
 unfold bj7 co7 j77 at h
 simp only [Bool.and_eq_true, decide_eq_true_eq] at h
 obtain ⟨h1, ⟨h2, h3, h4⟩, h5, h6⟩ := h
 have a1 := ci7 h1
 have a2 : ie7 sr7 f.tags ≤ 14 * f.tags.length := jp7 fun t ht => by
  obtain ⟨j, hj⟩ := Fz7 h5 ht
  simp only [Bool.and_eq_true] at hj
  have b1 := ci7 hj.1
  have b2 := ci7 hj.2.1
  unfold sr7
  omega
 have a3 := p87 f.shape.pts
 unfold aZ7 g77 wL
 omega
def SPw (v : List Str) : Prop := v.Pairwise fun a b => slt a b = true
theorem rH7 {v : List Str} (h : SPw v) : v.Nodup := List.Pairwise.imp (fun h => rF7 h) h
theorem o37 {a b : List Str} (ha : SPw a) (hb : SPw b) (h : ∀ x, x ∈ a ↔ x ∈ b) : a = b := by
 have hp : a.Perm b := (List.perm_ext_iff_of_nodup (rH7 ha) (rH7 hb)).2 h
 refine List.Perm.eq_of_pairwise (le := fun a b => slt a b = true) (fun x y _ _ g1 g2 => ?_) ha hb hp
 have := slt_sw.trans _ _ _ g1 g2
 rw [slt_sw.irrefl] at this
 cases this
theorem rI7 (a b c : Str) : leS a b = true → leS b c = true → leS a c = true := by
 unfold leS
 simp only [Bool.not_eq_true']
 exact fun h1 h2 => slt_sw.ntrans _ _ _ h2 h1
theorem rJ7 (a b : Str) : (leS a b || leS b a) = true := by
 unfold leS
 cases h : slt b a
 ·rfl
 ·cases h2 : slt a b
  ·rfl
  ·have := slt_sw.trans _ _ _ h h2
   rw [slt_sw.irrefl] at this
   cases this
theorem yE7 {a b : Str} (h : leS a b = true) (hn : a ≠ b) : slt a b = true := by
 unfold leS at h
 cases h2 : slt a b
 ·exact absurd (ow7 h2 (by simpa using h)) hn
 ·rfl
theorem Cb7 {a b c : Str} (h : leS a b = true) (h2 : slt b c = true) : slt a c = true := by
 by_cases e : a = b
 ·rw [e]; exact h2
 ·exact slt_sw.trans _ _ _ (yE7 h e) h2
theorem uz7 {xs : List Str} {y : Str} : y ∈ Go.Lib.compact xs ↔ y ∈ xs := by
 unfold Go.Lib.compact Go.Lib.compactUpTo
 rw [List.mem_map]
 constructor
 ·rintro ⟨j, hj, rfl⟩
  rw [List.mem_filter, List.mem_range] at hj
  rw [getElem!_pos _ j (by simpa using hj.1)]
  simp
 ·intro h
  obtain ⟨j, hj⟩ := List.mem_iff_getElem?.1 h
  induction j using Nat.strongRecOn with
  | _ j ih =>
   have hl := (List.getElem?_eq_some_iff.1 hj).1
   have he := (List.getElem?_eq_some_iff.1 hj).2
   by_cases hk : j = 0 ∨ xs.toArray[j]! ≠ xs.toArray[j - 1]!
   ·refine ⟨j, ?_, ?_⟩
    ·rw [List.mem_filter, List.mem_range]
     exact ⟨hl, by unfold Go.Lib.keeps; exact decide_eq_true hk⟩
    ·rw [getElem!_pos _ j (by simpa using hl)]
     simpa using he
   ·have h0 : j ≠ 0 := fun e => hk (.inl e)
    have h1 : xs.toArray[j]! = xs.toArray[j - 1]! := Classical.not_not.1 fun e => hk (.inr e)
    rw [getElem!_pos _ j (by simpa using hl), getElem!_pos _ (j - 1) (by simp; omega)] at h1
    simp only [List.getElem_toArray] at h1
    refine ih (j - 1) (by omega) ?_
    rw [List.getElem?_eq_getElem (by omega), ← h1, he]
theorem yF7 {xs : List Str} (h : xs.Pairwise fun a b => leS a b = true) : SPw (Go.Lib.compact xs) := by
 unfold Go.Lib.compact Go.Lib.compactUpTo SPw
 rw [List.pairwise_map, List.pairwise_filter]
 have hr := List.pairwise_lt_range (n := xs.length)
 refine List.Pairwise.imp_of_mem (fun {i j} hi hj hij _ hk => ?_) hr
 rw [List.mem_range] at hi hj
 rw [List.pairwise_iff_getElem] at h
 unfold Go.Lib.keeps at hk
 have hk := of_decide_eq_true hk
 rw [getElem!_pos _ i (by simpa using hi), getElem!_pos _ j (by simpa using hj)]
 rw [getElem!_pos _ j (by simpa using hj), getElem!_pos _ (j - 1) (by simp; omega)] at hk
 simp only [List.getElem_toArray] at hk ⊢
 have hne : xs[j] ≠ xs[j - 1] := by
  rcases hk with hk | hk
  ·omega
  ·exact hk
 have h1 : slt xs[j - 1] xs[j] = true := yE7 (h (j - 1) j (by omega) hj (by omega)) (Ne.symm hne)
 by_cases e : i = j - 1
 ·subst e; exact h1
 ·exact Cb7 (h i (j - 1) hi (by omega) (by omega)) h1
def FA7 (a b : List Feat) : List Str := (b.foldl (fun v x => hL7 x v) a).map (·.id)
theorem yG7 {f : Feat} : ∀ {l : List Feat} {i : Str}, i ∈ (hL7 f l).map (·.id) ↔ i = f.id ∨ i ∈ l.map (·.id) := by
 intro l i
 have hp := (rG7 (f := f) (l := l)).map (·.id)
 rw [hp.mem_iff, List.map_cons, List.mem_cons]
 constructor
 ·rintro (h | h)
  ·exact .inl h
  ·obtain ⟨y, hy, e⟩ := List.mem_map.1 h
   exact .inr (List.mem_map.2 ⟨y, (List.mem_filter.1 hy).1, e⟩)
 ·rintro (h | h)
  ·exact .inl h
  ·by_cases e : i = f.id
   ·exact .inl e
   ·obtain ⟨y, hy, e2⟩ := List.mem_map.1 h
    refine .inr (List.mem_map.2 ⟨y, List.mem_filter.2 ⟨hy, ?_⟩, e2⟩)
    have : ¬ y.id = f.id := fun e3 => e (by rw [← e2, e3])
    simp [this]
theorem o47 : ∀ {b a : List Feat} {i : Str}, i ∈ (b.foldl (fun v x => hL7 x v) a).map (·.id) ↔ i ∈ a.map (·.id) ∨ i ∈ b.map (·.id)
 | [], a, i => by simp
 | x :: b, a, i => by
  rw [List.foldl_cons, o47, yG7, List.map_cons, List.mem_cons]
  constructor
  ·rintro ((h | h) | h)
   ·exact .inr (.inl h)
   ·exact .inl h
   ·exact .inr (.inr h)
  ·rintro (h | h | h)
   ·exact .inl (.inr h)
   ·exact .inl (.inl h)
   ·exact .inr h
theorem sV7 : ∀ {b a : List Feat}, Pw a → Pw (b.foldl (fun v x => hL7 x v) a)
 | [], a, h => h
 | x :: b, a, h => sV7 (b := b) (yD7 h)
theorem E87 {a b : List Feat} (h : Pw a) : SPw (FA7 a b) := by
 unfold FA7 SPw
 rw [List.pairwise_map]
 exact sV7 h
theorem AX7 {a b : List Feat} (ha : a.length + b.length ≤ 1000) : qq7 a b = some (FA7 a b) := by
 have k1 : ∀ (l : List Feat) (k : Nat) (v : List Feat), v.length + l.length ≤ 1000 → fp7 l k v = some (l.foldl (fun v x => hL7 x v) v) ∧ (l.foldl (fun v x => hL7 x v) v).length ≤ v.length + l.length := by
  intro l
  induction l with
  | nil => intro k v _; exact ⟨rfl, by simp⟩
  | cons x l ih =>
   intro k v h
   simp only [List.length_cons] at h
   have hp := iN7 (f := x) v
   obtain ⟨h1, h2⟩ := ih (k + 1) (hL7 x v) (by omega)
   exact ⟨by simp only [fp7, yC7 (s := v) (f := x) (by omega), Option.bind_some, h1, List.foldl_cons], by simp only [List.length_cons, List.foldl_cons]; omega⟩
 have k2 : ∀ (l : List Feat) (k : Nat) (v : List Str), v.length + l.length ≤ 1000 → d87 l k v = some (v ++ l.map (·.id)) := by
  intro l
  induction l with
  | nil => intro k v _; simp [d87]
  | cons x l ih =>
   intro k v h
   simp only [List.length_cons] at h
   simp only [d87]
   rw [if_pos (aa7 (by simp; omega)), ih _ _ (by simp; omega)]
   simp
 obtain ⟨h1, h2⟩ := k1 b 0 a (by omega)
 unfold qq7
 rw [if_pos (aa7 (by omega)), h1, Option.bind_some, if_pos (aa7 (by omega)), k2 _ 0 [] (by simp; omega)]
 rfl
theorem LQ7 {α : Type} {p : α → Prop} [DecidablePred p] {xs : List α} {x : α} (h : xs.find? (fun y => decide (p y)) = some x) : p x := of_decide_eq_true (List.find?_some (p := fun y => decide (p y)) h)
theorem AY7 {α β : Type} {f : α → β} {xs : List α} (h : (xs.map f).Nodup) {i j : Nat} {x y : α} (hi : xs[i]? = some x) (hj : xs[j]? = some y) (e : f x = f y) : i = j :=
 (List.getElem?_inj (by have := (List.getElem?_eq_some_iff.1 hi).1; simpa using this) h).1 (by rw [List.getElem?_map, List.getElem?_map, hi, hj]; simp [e])
theorem nV7 {v : List Feat} (h : (v.map (·.id)).Nodup) : v.Nodup := List.Pairwise.of_map (·.id) (fun a b h e => h (congrArg _ e)) h
theorem rK7 {s : List Feat} {f : Feat} (hp : Pw s) (h : f ∈ s) : a67 s f.id = (f, true) := by
 unfold a67
 cases hf : s.find? (fun g : Feat => decide (g.id = f.id)) with
 | none =>
  have := List.find?_eq_none.1 hf f h
  simp at this
 | some g =>
  have h1 := List.mem_of_find?_eq_some hf
  have h2 := LQ7 (p := fun g : Feat => g.id = f.id) hf
  obtain ⟨i, hi⟩ := List.mem_iff_getElem?.1 h1
  obtain ⟨j, hj⟩ := List.mem_iff_getElem?.1 h
  have e : i = j := AY7 (o27 hp) hi hj h2
  subst e
  rw [hi] at hj
  cases hj
  rfl
theorem js7 (s : List Feat) (i : Str) : (a67 s i = (nF, false) ∧ ∀ f ∈ s, f.id ≠ i) ∨ ∃ f ∈ s, f.id = i ∧ a67 s i = (f, true) := by
 unfold a67
 cases hf : s.find? (fun g : Feat => decide (g.id = i)) with
 | none => exact .inl ⟨rfl, fun f h => by simpa using List.find?_eq_none.1 hf f h⟩
 | some g => exact .inr ⟨g, List.mem_of_find?_eq_some hf, LQ7 (p := fun g : Feat => g.id = i) hf, rfl⟩
theorem yH7 {s : List Feat} {i : Str} (h : ∀ f ∈ s, f.id ≠ i) : a67 s i = (nF, false) := by
 rcases js7 s i with ⟨h1, _⟩ | ⟨f, hf, he, _⟩
 ·exact h1
 ·exact absurd he (h f hf)
theorem E97 {s : List Feat} {f : Feat} {i : Str} (hp : Pw s) (h : f ∈ s) (e : f.id = i) : a67 s i = (f, true) := e ▸ rK7 hp h
theorem LR7 {v w : List Feat} (hv : Pw v) (hw : Pw w) (h : ∀ i, a67 v i = a67 w i) : v = w := by
 have key : ∀ {a b : List Feat}, Pw a → Pw b → (∀ i, a67 a i = a67 b i) → ∀ x, x ∈ a → x ∈ b := by
  intro a b ha hb h x hx
  have h1 := rK7 ha hx
  rw [h] at h1
  rcases js7 b x.id with ⟨h2, _⟩ | ⟨f, hf, _, h2⟩
  ·rw [h2] at h1; cases h1
  ·rw [h2] at h1; cases h1; exact hf
 have hp : v.Perm w := (List.perm_ext_iff_of_nodup (nV7 (o27 hv)) (nV7 (o27 hw))).2 fun x => ⟨key hv hw h x, key hw hv (fun i => (h i).symm) x⟩
 refine List.Perm.eq_of_pairwise (le := fun (a b : Feat) => slt a.id b.id = true) (fun x y _ _ g1 g2 => ?_) hv hw hp
 have := slt_sw.trans _ _ _ g1 g2
 rw [slt_sw.irrefl] at this
 cases this
def o57 (a b : List Pt) : Int := (bc7 a b 0).headD 0
theorem sW7 (a b : List Pt) (i : Nat) : bc7 (a.drop i) b 0 = bc7 a b i := by
 unfold bc7
 rw [List.drop_zero]
theorem rL7 (x : Pt) : ∀ (b : List Pt) (ls : List Int) (j : Nat), j ≤ b.length → (mq7 x b ls).drop j = mq7 x (b.drop j) (ls.drop j)
 | b, ls, 0, h => by simp
 | [], ls, j + 1, h => by simp at h
 | y :: b, ls, j + 1, h => by
  have h : j ≤ b.length := by simpa using h
  simp only [mq7, List.drop_succ_cons]
  rw [rL7 x b ls.tail j h]
  congr 1
  cases ls <;> simp
theorem rM7 (b : List Pt) (j : Nat) (hj : j ≤ b.length) : ∀ a : List Pt, (bc7 a b 0).drop j = bc7 a (b.drop j) 0
 | [] => by
  rw [show bc7 [] b 0 = List.replicate (b.length + 1) 0 from rfl, show bc7 [] (b.drop j) 0 = List.replicate ((b.drop j).length + 1) 0 from rfl, List.drop_replicate, List.length_drop]
  congr 1
  omega
 | x :: a => by
  have ih := rM7 b j hj a
  have e : ∀ c, bc7 (x :: a) c 0 = mq7 x c (bc7 a c 0) := fun c => rfl
  rw [e, e, rL7 x b _ j hj, ih]
theorem sX7 {a b : List Pt} {i j : Nat} (hj : j ≤ b.length) : (bc7 a b i)[j]? = some (o57 (a.drop i) (b.drop j)) := by
 have e : (bc7 a b i)[j]? = ((bc7 a b i).drop j)[0]? := by simp
 rw [e, ← sW7, rM7 b j hj]
 unfold o57
 have h : (bc7 (a.drop i) (b.drop j) 0).length = (b.drop j).length + 1 := eS7 _ _ (Nat.zero_le _)
 cases hc : bc7 (a.drop i) (b.drop j) 0 with
 | nil => rw [hc] at h; simp at h
 | cons v l => rfl
theorem uA7 {a b : List Pt} {i : Nat} (hi : i ≤ a.length) : (vO7 a b)[i]? = some (bc7 a b i) := by
 rw [lr7, List.getElem?_map, List.getElem?_range (by omega)]
 rfl
theorem wr1 {z : Int} (h0 : -100000 ≤ z) (h1 : z ≤ 100000) : IntKind.i64.wrap z = z := aM7 (by omega) (by omega)
theorem Fa7 {a b : Int} : qr7 a b = some (max a b) := by
 unfold qr7
 by_cases h : a > b
 ·rw [if_pos (decide_eq_true h)]
  congr 1
  omega
 ·rw [if_neg (by simpa using h)]
  congr 1
  omega
theorem uB7 {L : List Int} {j : Nat} {v : Int} (h : L[j]? = some v) : (List.replicate (j + 1) 0 ++ L.drop (j + 1)).set j v = List.replicate j 0 ++ L.drop j := by
 obtain ⟨h1, h2⟩ := List.getElem?_eq_some_iff.1 h
 rw [List.drop_eq_getElem_cons h1, h2, List.replicate_succ', List.append_assoc, List.set_append_right _ _ (by simp)]
 simp
theorem LS7 {a b : List Pt} {i : Nat} (hi : i < a.length) (ha : a.length ≤ 1000) (hb : b.length ≤ 1000) : ∀ (q N : Nat), q < N → q ≤ b.length → dA7 a (i : Int) b (bc7 a b (i + 1)) N ((q : Int) - 1) (List.replicate q 0 ++ (bc7 a b i).drop q) = some (bc7 a b i)
 | 0, N + 1, h, hq => by
  simp only [dA7]
  rw [if_neg (by simp)]
  simp
 | j + 1, N + 1, h, hq => by
  have hx := List.getElem?_eq_getElem hi
  have hy := List.getElem?_eq_getElem (show j < b.length by omega)
  have hst := eR7 (b := b) hx
  have hget := ox7 a[i] b (bc7 a b (i + 1)) j _ hy
  rw [← hst] at hget
  have hLi := eS7 a b (show i ≤ a.length by omega)
  have hLj := eS7 a b (show i + 1 ≤ a.length by omega)
  have hv1 := List.getElem?_eq_getElem (show j + 1 < (bc7 a b (i + 1)).length by omega)
  have hv0 := List.getElem?_eq_getElem (show j < (bc7 a b (i + 1)).length by omega)
  have hv2 := List.getElem?_eq_getElem (show j + 1 < (bc7 a b i).length by omega)
  have hb1 := sv7 a b _ (i + 1) (by omega) rfl _ _ hv1
  have e0 : ((j + 1 : Nat) : Int) - 1 = (j : Int) := by omega
  have e1 : IntKind.i64.wrap ((j : Int) + 1) = ((j + 1 : Nat) : Int) := by rw [wr1 (by omega) (by omega)]; omega
  have e2 : IntKind.i64.wrap ((j : Int) - 1) = (j : Int) - 1 := wr1 (by omega) (by omega)
  have hu : (List.replicate (j + 1) 0 ++ (bc7 a b i).drop (j + 1))[j]? = some 0 := by
   rw [List.getElem?_append_left (by simp), List.getElem?_replicate, if_pos (by omega)]
  have hu2 : (List.replicate (j + 1) 0 ++ (bc7 a b i).drop (j + 1))[j + 1]? = some (bc7 a b i)[j + 1] := by
   rw [List.getElem?_append_right (by simp)]
   simp
  rw [hv1, hv0, hv2] at hget
  simp only [Option.getD_some] at hget
  simp only [dA7]
  rw [e0, if_pos (decide_eq_true (by omega)), ao7, hx, Option.bind_some, ao7, hy, Option.bind_some, e1, e2]
  have ih := LS7 hi ha hb j N (by omega) (by omega)
  split
  ·rename_i hp
   rw [if_pos hp] at hget
   rw [ao7, hv1, Option.bind_some, ao7, hu, Option.bind_some, wr1 (by omega) (by omega), Int.toNat_natCast, uB7 hget]
   exact ih
  ·rename_i hp
   rw [if_neg hp] at hget
   rw [ao7, hv0, Option.bind_some, ao7, hu2, Option.bind_some, Fa7, Option.bind_some, ao7, hu, Option.bind_some, Int.toNat_natCast, uB7 hget]
   exact ih
theorem LT7 {a b : List Pt} (ha : a.length ≤ 1000) (hb : b.length ≤ 1000) : ∀ (m N : Nat), m < N → m ≤ a.length → ea7 b a N ((m : Int) - 1) (bc7 a b m) = some (bc7 a b 0)
 | 0, N + 1, h, hm => by
  simp only [ea7]
  rw [if_neg (by simp)]
 | i + 1, N + 1, h, hm => by
  have e0 : ((i + 1 : Nat) : Int) - 1 = (i : Int) := by omega
  have e1 : IntKind.i64.wrap ((b.length : Int) + 1) = ((b.length + 1 : Nat) : Int) := by rw [wr1 (by omega) (by omega)]; omega
  have e2 : IntKind.i64.wrap ((b.length : Int) - 1) = (b.length : Int) - 1 := wr1 (by omega) (by omega)
  have e3 : IntKind.i64.wrap ((i : Int) - 1) = (i : Int) - 1 := wr1 (by omega) (by omega)
  have hl := nl7 a b (show i ≤ a.length by omega)
  obtain ⟨h1, h2⟩ := List.getElem?_eq_some_iff.1 hl
  have hLi := eS7 a b (show i ≤ a.length by omega)
  have e4 : List.replicate (b.length + 1) (0 : Int) = List.replicate b.length 0 ++ (bc7 a b i).drop b.length := by
   rw [List.drop_eq_getElem_cons h1, h2, List.drop_eq_nil_of_le (by omega), List.replicate_succ']
  have h5 := LS7 (show i < a.length by omega) ha hb b.length aP7 (by unfold aP7; omega) (Nat.le_refl _)
  simp only [ea7]
  rw [e0, if_pos (decide_eq_true (by omega)), e1, e2, Int.toNat_natCast, if_pos (by rw [aa7 (by omega), Bool.and_true]; exact decide_eq_true (by omega)), e4, h5, Option.bind_some, e3]
  exact LT7 ha hb i N (by omega) (by omega)
theorem uC7 {a b : List Pt} (ha : a.length ≤ 1000) (hb : b.length ≤ 1000) : ns7 a b = some (o57 a b) := by
 have e1 : IntKind.i64.wrap ((b.length : Int) + 1) = ((b.length + 1 : Nat) : Int) := by rw [wr1 (by omega) (by omega)]; omega
 have e2 : IntKind.i64.wrap ((a.length : Int) - 1) = (a.length : Int) - 1 := wr1 (by omega) (by omega)
 unfold ns7
 have h4 := LT7 ha hb a.length aP7 (by unfold aP7; omega) (Nat.le_refl _)
 rw [go7] at h4
 have h0 := sX7 (a := a) (b := b) (i := 0) (Nat.zero_le b.length)
 rw [e1, e2, Int.toNat_natCast, if_pos (by rw [aa7 (by omega), Bool.and_true]; exact decide_eq_true (by omega)), h4, Option.bind_some, show idx (bc7 a b 0) 0 = (bc7 a b 0)[0]? from ao7 (k := 0), h0]
 rfl
def prs (a b : List Pt) : Nat → Nat → Nat → List cI7
 | 0, _, _ => []
 | n + 1, i, k => match a[i]?, b[k]? with
  | some x, some y => if x = y then ⟨(i : Int), (k : Int)⟩ :: prs a b n (i + 1) (k + 1) else if o57 (a.drop i) (b.drop (k + 1)) ≤ o57 (a.drop (i + 1)) (b.drop k) then prs a b n (i + 1) k else prs a b n i (k + 1)
  | _, _ => []
def gC7 (a b : List Pt) : List cI7 := prs a b (a.length + b.length) 0 0
theorem o67 {a b : List Pt} {n i k : Nat} (h : a.length ≤ i ∨ b.length ≤ k) : prs a b n i k = [] := by
 cases n with
 | zero => rfl
 | succ n =>
  rcases h with h | h
  ·simp only [prs, List.getElem?_eq_none h]
  ·simp only [prs, List.getElem?_eq_none h]
   cases a[i]? <;> rfl
theorem AZ7 {a b : List Pt} (ha : a.length ≤ 12) (hb : b.length ≤ 12) : ∀ (n N i k : Nat) (acc : List cI7), n < N → a.length + b.length ≤ n + i + k → i ≤ a.length → k ≤ b.length → acc.length ≤ i → dC7 a b (vO7 a b) N (i : Int) (k : Int) acc = some (acc ++ prs a b n i k)
 | n, N + 1, i, k, acc, hN, hn, hi, hk, hacc => by
  simp only [dC7]
  by_cases h1 : i < a.length
  case neg =>
   rw [if_neg (by simp; omega), o67 (.inl (by omega)), List.append_nil]
  by_cases h2 : k < b.length
  case neg =>
   rw [if_pos (decide_eq_true (by omega)), if_neg (by simp; omega), o67 (.inr (by omega)), List.append_nil]
  have hx := List.getElem?_eq_getElem h1
  have hy := List.getElem?_eq_getElem h2
  have e1 : IntKind.i64.wrap ((i : Int) + 1) = ((i + 1 : Nat) : Int) := by rw [wr1 (by omega) (by omega)]; omega
  have e2 : IntKind.i64.wrap ((k : Int) + 1) = ((k + 1 : Nat) : Int) := by rw [wr1 (by omega) (by omega)]; omega
  obtain ⟨n, rfl⟩ : ∃ m, n = m + 1 := ⟨n - 1, by omega⟩
  rw [if_pos (decide_eq_true (by omega)), if_pos (decide_eq_true (by omega)), ao7, hx, Option.bind_some, ao7, hy, Option.bind_some, ptb, e1, e2]
  simp only [prs, hx, hy]
  by_cases he : a[i] = b[k]
  ·rw [if_pos (decide_eq_true he), if_pos he, if_pos (aa7 (by simp; omega)), AZ7 ha hb n N (i + 1) (k + 1) _ (by omega) (by omega) (by omega) (by omega) (by simp; omega)]
   simp
  ·rw [if_neg (by simp [he]), if_neg he, ao7, uA7 (by omega), Option.bind_some, ao7, sX7 (by omega), Option.bind_some, ao7, uA7 (by omega), Option.bind_some, ao7, sX7 (by omega), Option.bind_some]
   by_cases hg : o57 (a.drop i) (b.drop (k + 1)) ≤ o57 (a.drop (i + 1)) (b.drop k)
   ·rw [if_pos (decide_eq_true hg), if_pos hg]
    exact AZ7 ha hb n N (i + 1) k acc (by omega) (by omega) (by omega) (by omega) (by omega)
   ·rw [if_neg (by simpa using hg), if_neg hg]
    exact AZ7 ha hb n N i (k + 1) acc (by omega) (by omega) (by omega) (by omega) (by omega)
theorem gD7 {α : Type} {xs : List α} {i : Nat} (h : i ≤ xs.length) : slc xs (i : Int) (xs.length : Int) = some (xs.drop i) := by
 unfold slc
 rw [if_pos ⟨by omega, by omega, by omega⟩]
 simp
theorem j27 {α : Type} {xs : List α} {i j : Nat} (h : i ≤ j) (hj : j ≤ xs.length) : slc xs (i : Int) (j : Int) = some ((xs.take j).drop i) := by
 unfold slc
 rw [if_pos ⟨by omega, by omega, by omega⟩]
 simp
theorem Fb7 {a b : List Pt} : qs7 a b = some (decide (a.length ≤ 12) && decide (b.length ≤ 12)) := by
 unfold qs7
 rw [show decide ((a.length : Int) ≤ 12) = decide (a.length ≤ 12) from DE7, show decide ((b.length : Int) ≤ 12) = decide (b.length ≤ 12) from DE7]
 by_cases h : a.length ≤ 12 <;> simp [h]
theorem A07 {a b : List Pt} (ha : a.length ≤ 12) (hb : b.length ≤ 12) : ∀ (n N i k : Nat) (acc : List cI7), n < N → a.length + b.length ≤ n + i + k → i ≤ a.length → k ≤ b.length → acc.length ≤ i → dB7 a b N (i : Int) (k : Int) acc = some (acc ++ prs a b n i k)
 | n, N + 1, i, k, acc, hN, hn, hi, hk, hacc => by
  simp only [dB7]
  by_cases h1 : i < a.length
  case neg =>
   rw [if_neg (by simp; omega), o67 (.inl (by omega)), List.append_nil]
  by_cases h2 : k < b.length
  case neg =>
   rw [if_pos (decide_eq_true (by omega)), if_neg (by simp; omega), o67 (.inr (by omega)), List.append_nil]
  have hx := List.getElem?_eq_getElem h1
  have hy := List.getElem?_eq_getElem h2
  have e1 : IntKind.i64.wrap ((i : Int) + 1) = ((i + 1 : Nat) : Int) := by rw [wr1 (by omega) (by omega)]; omega
  have e2 : IntKind.i64.wrap ((k : Int) + 1) = ((k + 1 : Nat) : Int) := by rw [wr1 (by omega) (by omega)]; omega
  obtain ⟨n, rfl⟩ : ∃ m, n = m + 1 := ⟨n - 1, by omega⟩
  rw [if_pos (decide_eq_true (by omega)), if_pos (decide_eq_true (by omega)), Fb7, Option.bind_some, if_pos (by simp [ha, hb]), ao7, hx, Option.bind_some, ao7, hy, Option.bind_some, ptb, e1, e2]
  simp only [prs, hx, hy]
  by_cases he : a[i] = b[k]
  ·rw [if_pos (decide_eq_true he), if_pos he, if_pos (aa7 (by simp; omega)), A07 ha hb n N (i + 1) (k + 1) _ (by omega) (by omega) (by omega) (by omega) (by simp; omega)]
   simp
  ·have d1 : ∀ i, (a.drop i).length ≤ 1000 := fun i => by rw [List.length_drop]; omega
   have d2 : ∀ i, (b.drop i).length ≤ 1000 := fun i => by rw [List.length_drop]; omega
   rw [if_neg (by simp [he]), if_neg he, gD7 (by omega), Option.bind_some, gD7 (by omega), Option.bind_some, uC7 (d1 _) (d2 _), Option.bind_some, gD7 (by omega), Option.bind_some, gD7 (by omega), Option.bind_some, uC7 (d1 _) (d2 _), Option.bind_some]
   by_cases hg : o57 (a.drop i) (b.drop (k + 1)) ≤ o57 (a.drop (i + 1)) (b.drop k)
   ·rw [if_pos (decide_eq_true hg), if_pos hg]
    exact A07 ha hb n N (i + 1) k acc (by omega) (by omega) (by omega) (by omega) (by omega)
   ·rw [if_neg (by simpa using hg), if_neg hg]
    exact A07 ha hb n N i (k + 1) acc (by omega) (by omega) (by omega) (by omega) (by omega)
theorem nW7 {a b : List Pt} (ha : a.length ≤ 12) (hb : b.length ≤ 12) : nA7 a b = some (gC7 a b) := by
 unfold nA7 BY7
 rw [if_neg (by simp; omega), if_neg (by simp; omega)]
 have h : vp7 a b = some (vO7 a b) := by
  unfold vp7
  rw [if_pos (by simp; omega)]
 have h2 := AZ7 ha hb (a.length + b.length) aP7 0 0 [] (by unfold aP7; omega) (by omega) (by omega) (by omega) (by simp)
 rw [h, Option.bind_some]
 exact congrArg (fun o => Option.bind o fun q => some q) h2
theorem nX7 {a b : List Pt} (ha : a.length ≤ 12) (hb : b.length ≤ 12) : nt7 a b = some (gC7 a b) := by
 unfold nt7
 have h2 := A07 ha hb (a.length + b.length) aP7 0 0 [] (by unfold aP7; omega) (by omega) (by omega) (by omega) (by simp)
 exact congrArg (fun o => Option.bind o fun q => some q) h2
def prt (p : List cI7) (i : Nat) : Option Nat := (p.find? fun q => decide (q.a = (i : Int))).map fun q => q.b.toNat
def pick (o a b : List Pt) : Option (List Pt) := if a = o then some b else if b = o then some a else if a = b then some a else none
def md7 (l : List Pt) (i j : Nat) : List Pt := (l.take j).drop i
def mg (o a b : List Pt) (pa pb : List cI7) : Nat → Nat → Nat → Nat → Nat → List Pt → Option (List Pt)
 | 0, at_, i, j, k, out => (pick (md7 o i at_) (a.drop j) (b.drop k)).map fun p => out ++ p
 | n + 1, at_, i, j, k, out => match prt pa at_, prt pb at_ with
  | some x, some y => (pick (md7 o i at_) (md7 a j x) (md7 b k y)).bind fun p => mg o a b pa pb n (at_ + 1) (at_ + 1) (x + 1) (y + 1) (out ++ p ++ (o[at_]?).toList)
  | _, _ => mg o a b pa pb n (at_ + 1) i j k out
def gE7 (o a b : List Pt) : Option (List Pt) := mg o a b (gC7 o a) (gC7 o b) o.length 0 0 0 0 []
theorem rN7 (o a b : List Pt) : pick o a b = pick o b a := by
 unfold pick
 by_cases h1 : a = o <;> by_cases h2 : b = o
 ·simp [h1, h2]
 ·simp [h1, h2]
 ·simp [h1, h2]
 ·rw [if_neg h1, if_neg h2, if_neg h2, if_neg h1]
  by_cases h3 : a = b
  ·subst h3; rfl
  ·rw [if_neg h3, if_neg (fun e => h3 e.symm)]
theorem l27 (o a b : List Pt) (pa pb : List cI7) : ∀ (n at_ i j k : Nat) (out : List Pt), mg o a b pa pb n at_ i j k out = mg o b a pb pa n at_ i k j out
 | 0, at_, i, j, k, out => by simp only [mg]; rw [rN7]
 | n + 1, at_, i, j, k, out => by
  simp only [mg]
  cases prt pa at_ <;> cases prt pb at_
  ·exact l27 o a b pa pb n _ _ _ _ _
  ·exact l27 o a b pa pb n _ _ _ _ _
  ·exact l27 o a b pa pb n _ _ _ _ _
  ·simp only
   rw [rN7]
   congr 1
   funext p
   exact l27 o a b pa pb n _ _ _ _ _
theorem sY7 (o a b : List Pt) : gE7 o a b = gE7 o b a := l27 o a b _ _ _ _ _ _ _ _
theorem rO7 {a b : List Pt} : ∀ (n i k : Nat) (q : cI7), q ∈ prs a b n i k → ∃ u v : Nat, q = ⟨(u : Int), (v : Int)⟩ ∧ i ≤ u ∧ u < a.length ∧ k ≤ v ∧ v < b.length
 | 0, i, k, q, h => by simp [prs] at h
 | n + 1, i, k, q, h => by
  simp only [prs] at h
  split at h
  ·rename_i x y hx hy
   have h1 := (List.getElem?_eq_some_iff.1 hx).1
   have h2 := (List.getElem?_eq_some_iff.1 hy).1
   split at h
   ·rcases List.mem_cons.1 h with rfl | h
    ·exact ⟨i, k, rfl, Nat.le_refl _, h1, Nat.le_refl _, h2⟩
    ·obtain ⟨u, v, e, g1, g2, g3, g4⟩ := rO7 n _ _ q h
     exact ⟨u, v, e, by omega, g2, by omega, g4⟩
   ·split at h
    ·obtain ⟨u, v, e, g1, g2, g3, g4⟩ := rO7 n _ _ q h
     exact ⟨u, v, e, by omega, g2, by omega, g4⟩
    ·obtain ⟨u, v, e, g1, g2, g3, g4⟩ := rO7 n _ _ q h
     exact ⟨u, v, e, by omega, g2, by omega, g4⟩
  ·simp at h
def UpP (p : List cI7) : Prop := p.Pairwise fun q r => q.a < r.a ∧ q.b < r.b
theorem yI7 {a b : List Pt} : ∀ (n i k : Nat), UpP (prs a b n i k)
 | 0, i, k => .nil
 | n + 1, i, k => by
  simp only [prs]
  split
  ·split
   ·refine List.Pairwise.cons (fun q hq => ?_) (yI7 n _ _)
    obtain ⟨u, v, rfl, g1, g2, g3, g4⟩ := rO7 n _ _ q hq
    simp only
    omega
   ·split <;> exact yI7 n _ _
  ·exact .nil
structure OkP (p : List cI7) (n : Nat) : Prop where
 up : UpP p
 rg : ∀ q, q ∈ p → 0 ≤ q.a ∧ 0 ≤ q.b ∧ q.b < n
theorem cH7 (a b : List Pt) : OkP (gC7 a b) b.length := ⟨yI7 _ _ _, fun q hq => by
 obtain ⟨u, v, rfl, g1, g2, g3, g4⟩ := rO7 _ _ _ q hq
 simp only
 omega⟩
theorem gV7 {a b : List Pt} (ha : a.length ≤ 12) : (gC7 a b).length ≤ 12 := by
 have : ∀ n i k, i ≤ a.length → (prs a b n i k).length ≤ a.length - i := by
  intro n
  induction n with
  | zero => intro i k h; simp [prs]
  | succ n ih =>
   intro i k h
   simp only [prs]
   split
   ·rename_i x y hx hy
    have h1 := (List.getElem?_eq_some_iff.1 hx).1
    split
    ·have := ih (i + 1) (k + 1) (by omega)
     simp only [List.length_cons]
     omega
    ·split
     ·have := ih (i + 1) k (by omega)
      omega
     ·exact ih i (k + 1) h
   ·simp
 have := this (a.length + b.length) 0 0 (Nat.zero_le _)
 unfold gC7
 omega
theorem yJ7 : ∀ {p : List cI7} {q r : cI7}, UpP p → q ∈ p → r ∈ p → q.a < r.a → q.b < r.b
 | [], q, r, h, hq, hr, e => by simp at hq
 | x :: p, q, r, h, hq, hr, e => by
  obtain ⟨h1, h2⟩ := List.pairwise_cons.1 h
  rcases List.mem_cons.1 hq with hq1 | hq1 <;> rcases List.mem_cons.1 hr with hr1 | hr1
  ·rw [hq1, hr1] at e; omega
  ·rw [hq1]; exact (h1 r hr1).2
  ·rw [hr1] at e; have := (h1 q hq1).1; omega
  ·exact yJ7 h2 hq1 hr1 e
theorem gW7 {p : List cI7} {n i v : Nat} (h : OkP p n) (hv : prt p i = some v) : v < n ∧ ∃ q, q ∈ p ∧ q.a = (i : Int) ∧ q.b = (v : Int) := by
 unfold prt at hv
 cases hf : p.find? fun q => decide (q.a = (i : Int)) with
 | none => rw [hf] at hv; cases hv
 | some q =>
  rw [hf] at hv
  simp only [Option.map_some, Option.some.injEq] at hv
  have hm := List.mem_of_find?_eq_some hf
  have ha : q.a = (i : Int) := by simpa using List.find?_some hf
  have hr := h.rg q hm
  exact ⟨by omega, q, hm, ha, by omega⟩
def Bh (p : List cI7) (at_ j : Nat) : Prop := ∀ q, q ∈ p → (at_ : Int) ≤ q.a → (j : Int) ≤ q.b
theorem Bh.skip {p : List cI7} {at_ j : Nat} (h : Bh p at_ j) : Bh p (at_ + 1) j := fun q hq h2 => h q hq (by omega)
theorem Bh.hit {p : List cI7} {n at_ v : Nat} (h : OkP p n) (hv : prt p at_ = some v) : Bh p (at_ + 1) (v + 1) := fun q hq h2 => by
 obtain ⟨_, r, hr, e1, e2⟩ := gW7 h hv
 have := yJ7 h.up hr hq (by omega)
 omega
theorem Bh.le {p : List cI7} {n at_ j v : Nat} (hb : Bh p at_ j) (h : OkP p n) (hv : prt p at_ = some v) : j ≤ v := by
 obtain ⟨_, r, hr, e1, e2⟩ := gW7 h hv
 have := hb r hr (by omega)
 omega
def A17 (p : List cI7) (i : Nat) : Int := match prt p i with
 | some v => (v : Int)
 | none => -1
theorem rP7 {x : cI7} {l : List cI7} {i : Nat} (hx : 0 ≤ x.b) : A17 (x :: l) i = if (x.a == (i : Int)) = true then x.b else A17 l i := by
 unfold A17 prt
 by_cases e : x.a = (i : Int)
 ·rw [List.find?_cons_of_pos (by simpa using e), if_pos (by simpa using e)]
  simp only [Option.map_some]
  omega
 ·rw [List.find?_cons_of_neg (by simpa using e), if_neg (by simpa using e)]
theorem rQ7 {p : List cI7} {i n : Nat} (h : OkP p n) (hl : p.length ≤ 1048576) : nB7 p (i : Int) = some (A17 p i) := by
 unfold nB7
 rw [if_pos (aa7 hl)]
 have key : ∀ (l : List cI7) (k : Nat), (∀ q, q ∈ l → 0 ≤ q.b) → ((fF7 (i : Int) l k).bind fun q => match q with | .inl r => some r | .inr q11 => some (-1)) = some (A17 l i) := by
  intro l
  induction l with
  | nil => intro k _; rfl
  | cons x l ih =>
   intro k hq
   simp only [fF7]
   rw [rP7 (hq x (by simp))]
   by_cases e : (x.a == (i : Int)) = true
   ·rw [if_pos e, if_pos e]; rfl
   ·rw [if_neg e, if_neg e]
    exact ih (k + 1) fun q h => hq q (by simp [h])
 exact key p 0 fun q hq => (h.rg q hq).2.1
theorem Cc7 {p : List cI7} {i n : Nat} (h : OkP p n) (hl : p.length ≤ 1048576) : nu7 p (i : Int) = some (A17 p i) := by
 unfold nu7
 rw [if_pos (aa7 hl)]
 have key : ∀ (l : List cI7) (k : Nat), (∀ q, q ∈ l → 0 ≤ q.b) → ((fq7 (i : Int) l k).bind fun q => match q with | .inl r => some r | .inr q8 => some (-1)) = some (A17 l i) := by
  intro l
  induction l with
  | nil => intro k _; rfl
  | cons x l ih =>
   intro k hq
   simp only [fq7]
   rw [rP7 (hq x (by simp))]
   by_cases e : (x.a == (i : Int)) = true
   ·rw [if_pos e, if_pos e]; rfl
   ·rw [if_neg e, if_neg e]
    exact ih (k + 1) fun q h => hq q (by simp [h])
 exact key p 0 fun q hq => (h.rg q hq).2.1
def A27 (o a b : List Pt) : List Pt × Bool := match pick o a b with
 | some p => (p, true)
 | none => ([], false)
theorem uD7 {o a b : List Pt} (ha : a.length ≤ 1048576) (hb : b.length ≤ 1048576) : nv7 o a b = some (A27 o a b) := by
 unfold nv7 A27 pick
 rw [kx7 ha, Option.bind_some]
 by_cases h1 : a = o
 ·rw [if_pos (decide_eq_true h1), if_pos h1]
 ·rw [if_neg (by simp [h1]), if_neg h1, kx7 hb, Option.bind_some]
  by_cases h2 : b = o
  ·rw [if_pos (decide_eq_true h2), if_pos h2]
  ·rw [if_neg (by simp [h2]), if_neg h2, kx7 ha, Option.bind_some]
   by_cases h3 : a = b
   ·rw [if_pos (decide_eq_true h3), if_pos h3]
   ·rw [if_neg (by simp [h3]), if_neg h3]
theorem Cd7 {o a b out : List Pt} (ha : a.length ≤ 12) (hb : b.length ≤ 12) (ho : out.length ≤ 1000) : ((eT7 a o).bind fun x778 => if x778 = true then (if aH7 (out ++ b).length = true then some (.inr (out ++ b)) else none) else ((eT7 b o).bind fun x783 => if x783 = true then (if aH7 (out ++ a).length = true then some (.inr (out ++ a)) else none) else ((eT7 a b).bind fun x785 => if x785 = true then (if aH7 (out ++ a).length = true then some (.inr (out ++ a)) else none) else (some (.inl (([] : (List Pt)), false))))) : Option (((List Pt) × Bool) ⊕ (List Pt))) =
  some (match pick o a b with | some p => .inr (out ++ p) | none => .inl ([], false)) := by
 unfold pick
 rw [uh7 (by omega), Option.bind_some]
 by_cases h1 : a = o
 ·rw [if_pos (decide_eq_true h1), if_pos h1, if_pos (aa7 (by simp; omega))]
 ·rw [if_neg (by simp [h1]), if_neg h1, uh7 (by omega), Option.bind_some]
  by_cases h2 : b = o
  ·rw [if_pos (decide_eq_true h2), if_pos h2, if_pos (aa7 (by simp; omega))]
  ·rw [if_neg (by simp [h2]), if_neg h2, uh7 (by omega), Option.bind_some]
   by_cases h3 : a = b
   ·rw [if_pos (decide_eq_true h3), if_pos h3, if_pos (aa7 (by simp; omega))]
   ·rw [if_neg (by simp [h3]), if_neg h3]
def mgR (r : Option (List Pt)) : (List Pt × Bool) ⊕ List Pt := match r with
 | some p => .inr p
 | none => .inl ([], false)
theorem df7 {l : List Pt} {i j : Nat} (h : l.length ≤ 12) : (md7 l i j).length ≤ 12 := by
 unfold md7
 rw [List.length_drop, List.length_take]
 omega
theorem iO7 {o a b p : List Pt} (ha : a.length ≤ 12) (hb : b.length ≤ 12) (h : pick o a b = some p) : p.length ≤ 12 := by
 unfold pick at h
 split at h
 ·cases h; exact hb
 ·split at h
  ·cases h; exact ha
  ·split at h
   ·cases h; exact ha
   ·cases h
section
variable {o a b : List Pt} {pa pb : List cI7}
theorem Mj7 (ho : o.length ≤ 12) (ha : a.length ≤ 12) (hb : b.length ≤ 12) (hpa : OkP pa a.length) (hpb : OkP pb b.length) (la : pa.length ≤ 12) (lb : pb.length ≤ 12) : ∀ (n N at_ i j k : Nat) (out : List Pt), n + 1 < N → n + at_ = o.length → i ≤ at_ → j ≤ a.length → k ≤ b.length → Bh pa at_ j → Bh pb at_ k → out.length ≤ 13 * at_ →
  en7 o pa pb a b N (i : Int) (j : Int) (k : Int) (at_ : Int) out = some (mgR (mg o a b pa pb n at_ i j k out))
 | 0, N + 2, at_, i, j, k, out, hN, hn, hi, hj, hk, ba, bb, hout => by
  simp only [en7]
  rw [if_pos (decide_eq_true (by omega)), if_neg (by simp; omega), j27 hi (by omega), Option.bind_some, gD7 hj, Option.bind_some, gD7 hk, Option.bind_some, Cd7 (by rw [List.length_drop]; omega) (by rw [List.length_drop]; omega) (by omega), Option.bind_some]
  simp only [mg]
  unfold md7
  cases hp : pick ((o.take at_).drop i) (a.drop j) (b.drop k) with
  | none => rfl
  | some p =>
   simp only
   rw [if_neg (by simp; omega)]
   simp only [Option.bind_some]
   rw [show IntKind.i64.wrap ((at_ : Int) + 1) = ((at_ + 1 : Nat) : Int) by rw [wr1 (by omega) (by omega)]; omega, if_neg (by simp; omega)]
   rfl
 | n + 1, N + 1, at_, i, j, k, out, hN, hn, hi, hj, hk, ba, bb, hout => by
  have ew : IntKind.i64.wrap ((at_ : Int) + 1) = ((at_ + 1 : Nat) : Int) := by rw [wr1 (by omega) (by omega)]; omega
  simp only [en7]
  rw [if_pos (decide_eq_true (by omega)), if_pos (decide_eq_true (by omega)), rQ7 hpa (by omega), Option.bind_some, rQ7 hpb (by omega), Option.bind_some]
  simp only [mg]
  unfold A17
  cases hx : prt pa at_ with
  | none =>
   simp only
   rw [if_pos (by decide)]
   simp only [Option.bind_some, ew]
   exact Mj7 ho ha hb hpa hpb la lb n N _ _ _ _ _ (by omega) (by omega) (by omega) hj hk ba.skip bb.skip (by omega)
  | some x =>
   cases hy : prt pb at_ with
   | none =>
    simp only
    rw [if_neg (by simp), if_pos (by decide)]
    simp only [Option.bind_some, ew]
    exact Mj7 ho ha hb hpa hpb la lb n N _ _ _ _ _ (by omega) (by omega) (by omega) hj hk ba.skip bb.skip (by omega)
   | some y =>
    have x1 := (gW7 hpa hx).1
    have y1 := (gW7 hpb hy).1
    have x2 := ba.le hpa hx
    have y2 := bb.le hpb hy
    have ho1 := List.getElem?_eq_getElem (show at_ < o.length by omega)
    simp only
    rw [if_neg (by simp), if_neg (by simp), j27 hi (by omega), Option.bind_some, j27 x2 (by omega), Option.bind_some, j27 y2 (by omega), Option.bind_some, Cd7 (o := (o.take at_).drop i) (a := (a.take x).drop j) (b := (b.take y).drop k) (df7 ha) (df7 hb) (by omega), Option.bind_some]
    show _ = some (mgR ((pick (md7 o i at_) (md7 a j x) (md7 b k y)).bind _))
    unfold md7
    cases hp : pick ((o.take at_).drop i) ((a.take x).drop j) ((b.take y).drop k) with
    | none => rfl
    | some p =>
     have hpl := iO7 (df7 (i := j) (j := x) ha) (df7 (i := k) (j := y) hb) hp
     simp only
     rw [if_pos (decide_eq_true (by omega)), ao7, ho1, Option.bind_some, if_pos (aa7 (by simp; omega))]
     simp only [Option.bind_some, ew, ho1, Option.toList_some]
     rw [show IntKind.i64.wrap ((x : Int) + 1) = ((x + 1 : Nat) : Int) by rw [wr1 (by omega) (by omega)]; omega, show IntKind.i64.wrap ((y : Int) + 1) = ((y + 1 : Nat) : Int) by rw [wr1 (by omega) (by omega)]; omega]
     exact Mj7 ho ha hb hpa hpb la lb n N _ _ _ _ _ (by omega) (by omega) (by omega) (by omega) (by omega) (Bh.hit hpa hx) (Bh.hit hpb hy) (by simp; omega)
theorem Mk7 (ho : o.length ≤ 12) (ha : a.length ≤ 12) (hb : b.length ≤ 12) (hpa : OkP pa a.length) (hpb : OkP pb b.length) (la : pa.length ≤ 12) (lb : pb.length ≤ 12) : ∀ (n N at_ i j k : Nat) (out : List Pt), n + 1 < N → n + at_ = o.length → i ≤ at_ → j ≤ a.length → k ≤ b.length → Bh pa at_ j → Bh pb at_ k → out.length ≤ 13 * at_ →
  eb7 o pa pb a b N (i : Int) (j : Int) (k : Int) (at_ : Int) out = some (mgR (mg o a b pa pb n at_ i j k out))
 | 0, N + 2, at_, i, j, k, out, hN, hn, hi, hj, hk, ba, bb, hout => by
  simp only [eb7]
  rw [if_pos (decide_eq_true (by omega)), if_neg (by simp; omega), j27 hi (by omega), Option.bind_some, gD7 hj, Option.bind_some, gD7 hk, Option.bind_some, uD7 (by rw [List.length_drop]; omega) (by rw [List.length_drop]; omega), Option.bind_some]
  simp only [mg]
  unfold md7 A27
  cases hp : pick ((o.take at_).drop i) (a.drop j) (b.drop k) with
  | none => rfl
  | some p =>
   have hpl := iO7 (by rw [List.length_drop]; omega) (by rw [List.length_drop]; omega) hp
   simp only
   rw [if_neg (by decide), if_pos (aa7 (by simp; omega)), if_neg (by simp; omega)]
   simp only [Option.bind_some]
   rw [show IntKind.i64.wrap ((at_ : Int) + 1) = ((at_ + 1 : Nat) : Int) by rw [wr1 (by omega) (by omega)]; omega, if_neg (by simp; omega)]
   rfl
 | n + 1, N + 1, at_, i, j, k, out, hN, hn, hi, hj, hk, ba, bb, hout => by
  have ew : IntKind.i64.wrap ((at_ : Int) + 1) = ((at_ + 1 : Nat) : Int) := by rw [wr1 (by omega) (by omega)]; omega
  simp only [eb7]
  rw [if_pos (decide_eq_true (by omega)), if_pos (decide_eq_true (by omega)), Cc7 hpa (by omega), Option.bind_some, Cc7 hpb (by omega), Option.bind_some]
  simp only [mg]
  unfold A17
  cases hx : prt pa at_ with
  | none =>
   simp only
   rw [if_pos (by decide)]
   simp only [Option.bind_some, ew]
   exact Mk7 ho ha hb hpa hpb la lb n N _ _ _ _ _ (by omega) (by omega) (by omega) hj hk ba.skip bb.skip (by omega)
  | some x =>
   cases hy : prt pb at_ with
   | none =>
    simp only
    rw [if_neg (by simp), if_pos (by decide)]
    simp only [Option.bind_some, ew]
    exact Mk7 ho ha hb hpa hpb la lb n N _ _ _ _ _ (by omega) (by omega) (by omega) hj hk ba.skip bb.skip (by omega)
   | some y =>
    have x1 := (gW7 hpa hx).1
    have y1 := (gW7 hpb hy).1
    have x2 := ba.le hpa hx
    have y2 := bb.le hpb hy
    have ho1 := List.getElem?_eq_getElem (show at_ < o.length by omega)
    simp only
    rw [if_neg (by simp), if_neg (by simp), j27 hi (by omega), Option.bind_some, j27 x2 (by omega), Option.bind_some, j27 y2 (by omega), Option.bind_some, uD7 (o := (o.take at_).drop i) (a := (a.take x).drop j) (b := (b.take y).drop k) (by have := df7 (i := j) (j := x) ha; unfold md7 at this; omega) (by have := df7 (i := k) (j := y) hb; unfold md7 at this; omega), Option.bind_some]
    show _ = some (mgR ((pick (md7 o i at_) (md7 a j x) (md7 b k y)).bind _))
    unfold md7 A27
    cases hp : pick ((o.take at_).drop i) ((a.take x).drop j) ((b.take y).drop k) with
    | none => rfl
    | some p =>
     have hpl := iO7 (df7 (i := j) (j := x) ha) (df7 (i := k) (j := y) hb) hp
     simp only
     rw [if_neg (by decide), if_pos (aa7 (by simp; omega)), if_pos (decide_eq_true (by omega)), ao7, ho1, Option.bind_some, if_pos (aa7 (by simp; omega))]
     simp only [Option.bind_some, ew, ho1, Option.toList_some]
     rw [show IntKind.i64.wrap ((x : Int) + 1) = ((x + 1 : Nat) : Int) by rw [wr1 (by omega) (by omega)]; omega, show IntKind.i64.wrap ((y : Int) + 1) = ((y + 1 : Nat) : Int) by rw [wr1 (by omega) (by omega)]; omega]
     exact Mk7 ho ha hb hpa hpb la lb n N _ _ _ _ _ (by omega) (by omega) (by omega) (by omega) (by omega) (Bh.hit hpa hx) (Bh.hit hpb hy) (by simp; omega)
end
def jt7 (o a b : List Pt) : List Pt × Bool := match gE7 o a b with
 | some p => (p, true)
 | none => ([], false)
theorem vI7 {o a b : List Pt} (ho : o.length ≤ 12) (ha : a.length ≤ 12) (hb : b.length ≤ 12) : nC7 o a b = some (jt7 o a b) := by
 unfold nC7 jt7 gE7
 have h := Mj7 ho ha hb (cH7 o a) (cH7 o b) (gV7 ho) (gV7 ho) o.length aP7 0 0 0 0 [] (by unfold aP7; omega) (by omega) (by omega) (by omega) (by omega) (fun q hq _ => (cH7 o a).rg q hq |>.2.1) (fun q hq _ => (cH7 o b).rg q hq |>.2.1) (by simp)
 rw [if_neg (by simp; omega), if_neg (by simp; omega), if_neg (by simp; omega), nW7 ho ha, Option.bind_some, nW7 ho hb, Option.bind_some]
 refine (congrArg (fun z => Option.bind z _) h).trans ?_
 cases mg o a b (gC7 o a) (gC7 o b) o.length 0 0 0 0 [] <;> rfl
theorem yK7 {o a b : List Pt} (ho : o.length ≤ 12) (ha : a.length ≤ 12) (hb : b.length ≤ 12) : qt7 o a b = some (jt7 o a b) := by
 unfold qt7 jt7 gE7
 have h := Mk7 ho ha hb (cH7 o a) (cH7 o b) (gV7 ho) (gV7 ho) o.length aP7 0 0 0 0 [] (by unfold aP7; omega) (by omega) (by omega) (by omega) (by omega) (fun q hq _ => (cH7 o a).rg q hq |>.2.1) (fun q hq _ => (cH7 o b).rg q hq |>.2.1) (by simp)
 rw [nX7 ho ha, Option.bind_some, nX7 ho hb, Option.bind_some]
 refine (congrArg (fun z => Option.bind z _) h).trans ?_
 cases mg o a b (gC7 o a) (gC7 o b) o.length 0 0 0 0 [] <;> rfl
def b07 (ts : List Tag) (k : Str) : Val := match ts.find? (fun t : Tag => decide (t.key = k)) with
 | some t => ⟨true, t.val⟩
 | none => ⟨false, ⟨#[]⟩⟩
theorem yL7 {ts : List Tag} {k : Str} (h : (b07 ts k).has = false) : (b07 ts k).val = ⟨#[]⟩ := by
 unfold b07 at h ⊢
 split at h
 ·cases h
 ·rfl
theorem l37 {f : Feat} {k : Str} (hl : f.tags.length ≤ 1048576) : lD7 f k = some (b07 f.tags k) := by
 have h1 : qQ7 f k = some (a97 (fun t : Tag => decide (t.key = k)) f.tags 0) := by
  unfold qQ7 t97
  have h := mr7 (gl := fG7 k) (p := fun t : Tag => decide (t.key = k)) (ok := fun _ => True) (fun _ => rfl) (fun x l j _ => by simp only [fG7, t87, Option.bind_some, bS7]) f.tags 0 (fun _ _ => trivial)
  rw [if_pos (aa7 hl)]
  exact (congrArg (fun o => Option.bind o fun x3 => some x3) h)
 unfold lD7 b07
 rw [h1, Option.bind_some]
 rcases kB7 (p := fun t : Tag => decide (t.key = k)) f.tags 0 with ⟨h1, h2⟩ | ⟨j, x, h1, h2, h3, h4⟩
 ·rw [h1, h2]; rfl
 ·rw [h1, h2, if_neg (by simp), ao7, Nat.zero_add, h3, Option.bind_some]
theorem sZ7 {ts : List Tag} {k : Str} (hl : ts.length ≤ 1048576) : lx7 ts k = some ((b07 ts k).val, (b07 ts k).has) := by
 have key : ∀ (l : List Tag) (j : Nat), ((fr7 k l j).bind fun q => match q with | .inl r => some r | .inr q8 => some ((⟨#[]⟩ : Str), false)) = some ((b07 l k).val, (b07 l k).has) := by
  intro l
  induction l with
  | nil => intro j; rfl
  | cons x l ih =>
   intro j
   simp only [fr7, bS7]
   by_cases e : x.key = k
   ·rw [if_pos (decide_eq_true e)]
    unfold b07
    rw [List.find?_cons_of_pos (by simpa using e)]
    rfl
   ·rw [if_neg (by simp [e])]
    have e2 : b07 (x :: l) k = b07 l k := by
     unfold b07
     rw [List.find?_cons_of_neg (by simpa using e)]
    rw [e2]
    exact ih (j + 1)
 unfold lx7
 rw [if_pos (aa7 hl)]
 exact key ts 0
def a77 {α : Type} [DecidableEq α] (o a b : α) : α × Bool := if a = o then (b, true) else if b = o then (a, true) else if a = b then (a, true) else (a, false)
theorem QQ7 (x y : Val) : ((x.has == y.has) && ((x.val == y.val) && true)) = decide (x = y) := by
 obtain ⟨a, b⟩ := x; obtain ⟨c, d⟩ := y
 simp only [Mb7]
 by_cases h1 : a = c <;> by_cases h2 : b = d <;> simp [h1, h2]
theorem A37 {o a b : Val} : qU7 o a b = some (a77 o a b) := by
 unfold qU7 nD7 a77
 simp only [Option.bind_some, QQ7]
 by_cases h1 : a = o <;> by_cases h2 : b = o <;> by_cases h3 : a = b <;> simp [h1, h2, h3]
def nY7 (o a b : Val) : Val × Bool := if (a77 o a b).2 = true then a77 o a b else (if a.has = true then a else b, false)
theorem Fc7 {o a b : List Tag} {k : Str} (ho : o.length ≤ 1048576) (ha : a.length ≤ 1048576) (hb : b.length ≤ 1048576) : qw7 o a b k = some ((nY7 (b07 o k) (b07 a k) (b07 b k)).1.val, (nY7 (b07 o k) (b07 a k) (b07 b k)).1.has, (nY7 (b07 o k) (b07 a k) (b07 b k)).2) := by
 unfold qw7
 rw [sZ7 ho, Option.bind_some, sZ7 ha, Option.bind_some, sZ7 hb, Option.bind_some]
 have na := yL7 (ts := a) (k := k)
 have nb := yL7 (ts := b) (k := k)
 generalize b07 o k = vo at *
 generalize b07 a k = va at *
 generalize b07 b k = vb at *
 obtain ⟨oh, ov⟩ := vo; obtain ⟨ah, av⟩ := va; obtain ⟨bh, bv⟩ := vb
 simp only [bS7] at *
 unfold nY7 a77
 simp only [Val.mk.injEq]
 by_cases h1 : av = ov
 ·subst h1
  by_cases h2 : bv = av
  ·subst h2
   cases oh <;> cases ah <;> cases bh <;> simp_all
  ·cases oh <;> cases ah <;> cases bh <;> simp_all [eq_comm]
 ·by_cases h2 : bv = ov
  ·subst h2
   cases oh <;> cases ah <;> cases bh <;> simp_all [eq_comm]
  ·by_cases h3 : av = bv
   ·subst h3
    cases oh <;> cases ah <;> cases bh <;> simp_all [eq_comm]
   ·cases oh <;> cases ah <;> cases bh <;> simp_all [eq_comm]
def l47 (s : List Tag) (k : Str) : List Tag := s.filter fun y => !decide (y.key = k)
def hI7 (f : Tag) : List Tag → List Tag
 | [] => [f]
 | x :: l => if slt x.key f.key = true then x :: hI7 f l else f :: l47 (x :: l) f.key
theorem nZ7 {x : Tag} {l : List Tag} {k : Str} : l47 (x :: l) k = if x.key = k then l47 l k else x :: l47 l k := by
 unfold l47
 rw [List.filter_cons]
 by_cases h : x.key = k <;> simp [h]
theorem iP7 {f : Tag} : ∀ (l : List Tag) (k : Nat) (v : List Tag), v.length + l.length ≤ 1048576 → cs7 f.key f.val l k true v = some (true, v ++ l47 l f.key)
 | [], k, v, _ => by simp [cs7, l47]
 | x :: l, k, v, h => by
  simp only [List.length_cons] at h
  simp only [cs7, bS7, Bool.not_true, Bool.false_eq_true, if_false, Option.bind_some]
  rw [nZ7]
  by_cases e : x.key = f.key
  ·rw [if_neg (by simp [e]), iP7 l (k + 1) v (by omega), if_pos e]
  ·rw [if_pos (by simp [e]), if_pos (aa7 (by simp; omega)), iP7 l (k + 1) _ (by simp; omega), if_neg e]
   simp
theorem rR7 {f : Tag} : ∀ (l : List Tag) (k : Nat) (v : List Tag), v.length + l.length + 1 ≤ 1048576 → ∃ d o, cs7 f.key f.val l k false v = some (d, o) ∧ (if d = true then o else o ++ [f]) = v ++ hI7 f l
 | [], k, v, _ => ⟨false, v, rfl, by simp [hI7]⟩
 | x :: l, k, v, h => by
  simp only [List.length_cons] at h
  simp only [cs7, bS7, Bool.not_false, if_true, hI7]
  by_cases e : slt x.key f.key = true
  ·have hn := rF7 e
   obtain ⟨d, o, h1, h2⟩ := rR7 l (k + 1) (v ++ [x]) (by simp; omega)
   refine ⟨d, o, ?_, by rw [h2, if_pos e]; simp⟩
   rw [if_neg (by simp [e]), Option.bind_some]
   simp only
   rw [if_pos (by simp [hn]), if_pos (aa7 (by simp; omega)), h1]
  ·rw [if_pos (by simpa using e), if_pos (aa7 (by simp; omega)), Option.bind_some]
   simp only
   rw [if_neg e, nZ7]
   by_cases e2 : x.key = f.key
   ·rw [if_neg (by simp [e2]), iP7 l (k + 1) _ (by simp; omega), if_pos e2]
    exact ⟨true, _, rfl, by simp⟩
   ·rw [if_pos (by simp [e2]), if_pos (aa7 (by simp; omega)), iP7 l (k + 1) _ (by simp; omega), if_neg e2]
    exact ⟨true, _, rfl, by simp⟩
theorem l67 {f : Tag} : ∀ (l : List Tag), (hI7 f l).length ≤ l.length + 1
 | [] => by simp [hI7]
 | x :: l => by
  have := l67 (f := f) l
  have h2 : (l47 (x :: l) f.key).length ≤ (x :: l).length := List.length_filter_le _ _
  unfold hI7
  split
  ·simp only [List.length_cons]; omega
  ·simp only [List.length_cons] at h2 ⊢; omega
theorem Fd7 {s : List Tag} {f : Tag} (h : s.length + 1 ≤ 1048576) : ii7 s f.key f.val = some (hI7 f s) := by
 obtain ⟨d, o, h1, h2⟩ := rR7 (f := f) s 0 [] (by simp; omega)
 have h3 := l67 (f := f) s
 simp only [List.nil_append] at h2
 unfold ii7
 rw [if_pos (aa7 (by omega)), h1, Option.bind_some]
 cases d
 ·simp only [Bool.not_false, if_true]
  simp only [Bool.false_eq_true, if_false] at h2
  rw [if_pos (aa7 (by rw [h2]; omega)), h2]
 ·simp only [if_true] at h2
  simp [h2]
theorem l77 {f : Tag} : ∀ {l : List Tag} {k : Str}, k ∈ (hI7 f l).map (·.key) ↔ k = f.key ∨ k ∈ l.map (·.key)
 | [], k => by simp [hI7]
 | x :: l, k => by
  unfold hI7
  split
  ·rw [List.map_cons, List.mem_cons, l77, List.map_cons, List.mem_cons]
   constructor
   ·rintro (h | h | h)
    ·exact .inr (.inl h)
    ·exact .inl h
    ·exact .inr (.inr h)
   ·rintro (h | h | h)
    ·exact .inr (.inl h)
    ·exact .inl h
    ·exact .inr (.inr h)
  ·rw [List.map_cons, List.mem_cons]
   have e : k ∈ (l47 (x :: l) f.key).map (·.key) ↔ k ≠ f.key ∧ k ∈ (x :: l).map (·.key) := by
    simp only [l47, List.mem_map, List.mem_filter, Bool.not_eq_true', decide_eq_false_iff_not]
    constructor
    ·rintro ⟨y, ⟨h1, h2⟩, rfl⟩
     exact ⟨h2, y, h1, rfl⟩
    ·rintro ⟨h2, y, h1, rfl⟩
     exact ⟨y, ⟨h1, h2⟩, rfl⟩
   rw [e]
   by_cases h : k = f.key
   ·simp [h]
   ·simp [h]
theorem A47 {s : List Tag} {k : Str} : (l47 s k).Sublist s := List.filter_sublist
theorem uE7 {f : Tag} : ∀ {l : List Tag}, SPw (l.map (·.key)) → SPw ((hI7 f l).map (·.key))
 | [], _ => by simp [hI7, SPw]
 | x :: l, h => by
  have h0 := h
  unfold SPw at h
  rw [List.map_cons, List.pairwise_cons] at h
  obtain ⟨h1, h2⟩ := h
  unfold hI7
  split
  ·rename_i e
   unfold SPw
   rw [List.map_cons, List.pairwise_cons]
   refine ⟨fun k hk => ?_, uE7 h2⟩
   rcases l77.1 hk with rfl | hk
   ·exact e
   ·exact h1 k hk
  ·rename_i e
   unfold SPw
   rw [List.map_cons, List.pairwise_cons]
   refine ⟨fun k hk => ?_, List.Pairwise.sublist ((A47 (s := x :: l)).map _) h0⟩
   obtain ⟨y, hy, rfl⟩ := List.mem_map.1 hk
   have hy2 := List.mem_filter.1 hy
   have hne : y.key ≠ f.key := by simpa using hy2.2
   have hfx : leS f.key x.key = true := by unfold leS; simpa using e
   rcases List.mem_cons.1 hy2.1 with rfl | hy3
   ·exact yE7 hfx (fun e => hne e.symm)
   ·exact Cb7 hfx (h1 _ (List.mem_map_of_mem hy3))
def eX7 (o a b : List Tag) : List Str := Go.Lib.compact (((o ++ a ++ b).map (·.key)).mergeSort leS)
theorem kD7 {o a b : List Tag} : SPw (eX7 o a b) := yF7 (List.pairwise_mergeSort rI7 rJ7 _)
theorem iQ7 {o a b : List Tag} {k : Str} : k ∈ eX7 o a b ↔ k ∈ o.map (·.key) ∨ k ∈ a.map (·.key) ∨ k ∈ b.map (·.key) := by
 unfold eX7
 rw [uz7, (List.mergeSort_perm _ leS).mem_iff, List.map_append, List.map_append, List.mem_append, List.mem_append, or_assoc]
theorem A57 {o a b : List Tag} (h : o.length + a.length + b.length ≤ 1000) : qv7 o a b = some (eX7 o a b) := by
 have k1 : ∀ (l : List Tag) (k : Nat) (v : List Tag), v.length + l.length ≤ 1000 → SPw (v.map (·.key)) → ∃ r, fs7 l k v = some r ∧ SPw (r.map (·.key)) ∧ r.length ≤ v.length + l.length ∧ ∀ x, x ∈ r.map (·.key) ↔ x ∈ v.map (·.key) ∨ x ∈ l.map (·.key) := by
  intro l
  induction l with
  | nil => intro k v _ hv; exact ⟨v, rfl, hv, by simp, by simp⟩
  | cons t l ih =>
   intro k v h hv
   simp only [List.length_cons] at h
   have hp := l67 (f := ⟨t.key, ⟨#[97]⟩⟩) v
   obtain ⟨r, h1, h2, h3, h4⟩ := ih (k + 1) (hI7 ⟨t.key, ⟨#[97]⟩⟩ v) (by omega) (uE7 hv)
   refine ⟨r, ?_, h2, by simp only [List.length_cons]; omega, fun x => ?_⟩
   ·simp only [fs7]
    rw [Fd7 (s := v) (f := ⟨t.key, ⟨#[97]⟩⟩) (by omega), Option.bind_some, h1]
   ·rw [h4, l77, List.map_cons, List.mem_cons]
    constructor
    ·rintro ((h | h) | h)
     ·exact .inr (.inl h)
     ·exact .inl h
     ·exact .inr (.inr h)
    ·rintro (h | h | h)
     ·exact .inl (.inr h)
     ·exact .inl (.inl h)
     ·exact .inr h
 have k2 : ∀ (l : List Tag) (k : Nat) (v : List Str), v.length + l.length ≤ 1000 → ec7 l k v = some (v ++ l.map (·.key)) := by
  intro l
  induction l with
  | nil => intro k v _; simp [ec7]
  | cons x l ih =>
   intro k v h
   simp only [List.length_cons] at h
   simp only [ec7]
   rw [if_pos (aa7 (by simp; omega)), ih _ _ (by simp; omega)]
   simp
 obtain ⟨r, h1, h2, h3, h4⟩ := k1 (o ++ a ++ b) 0 [] (by simp; omega) (by simp [SPw])
 unfold qv7
 simp only [List.nil_append]
 simp only [List.length_append, List.length_nil] at h3
 rw [if_pos (aa7 (by omega)), if_pos (aa7 (by simp; omega)), if_pos (aa7 (by simp; omega)), if_pos (aa7 (by simp; omega)), h1, Option.bind_some, if_pos (aa7 (by omega)), k2 r 0 [] (by simp; omega), Option.bind_some]
 congr 1
 refine o37 (by simpa using h2) kD7 fun x => ?_
 rw [iQ7, List.nil_append, h4]
 simp [or_assoc]
def tagW : Str := ⟨#[116, 97, 103, 32]⟩
def mT (o a b : Feat) (k : Str) : Val × Bool := nY7 (b07 o.tags k) (b07 a.tags k) (b07 b.tags k)
def wOf (o a b : Feat) (k : Str) : List Str := if (mT o a b k).2 = true then [] else [tagW ++ k]
def tOf (o a b : Feat) (k : Str) : List Tag := if (mT o a b k).1.has = true then [⟨k, (mT o a b k).1.val⟩] else []
structure g17 (f : Feat) : Prop where
 id : f.id.size ≤ 7
 pts : f.shape.pts.length ≤ 6
 tags : f.tags.length ≤ 4
 key : ∀ t, t ∈ f.tags → t.key.size ≤ 7 ∧ t.val.size ≤ 7
 shape : co7 f.shape = true
theorem gF7 {f : Feat} (h : bj7 f = true) : g17 f := by
 unfold bj7 j77 at h
 simp only [Bool.and_eq_true, decide_eq_true_eq] at h
 obtain ⟨h1, h2, h5, h6⟩ := h
 have h3 := h2
 unfold co7 at h3
 simp only [Bool.and_eq_true, decide_eq_true_eq] at h3
 refine ⟨ci7 h1, h3.2.1, h6, fun t ht => ?_, h2⟩
 obtain ⟨j, hj⟩ := Fz7 h5 ht
 simp only [Bool.and_eq_true] at hj
 exact ⟨ci7 hj.1, ci7 hj.2.1⟩
theorem rS7 {ts : List Tag} {k : Str} (h : ∀ t, t ∈ ts → t.key.size ≤ 7 ∧ t.val.size ≤ 7) : (b07 ts k).val.size ≤ 7 := by
 unfold b07
 split
 ·rename_i t e
  exact (h t (List.mem_of_find?_eq_some e)).2
 ·show (0 : Nat) ≤ 7
  omega
theorem gG7 {α : Type} [DecidableEq α] {o a b : α} : (a77 o a b).1 = a ∨ (a77 o a b).1 = b := by
 unfold a77
 split
 ·exact .inr rfl
 ·split
  ·exact .inl rfl
  ·split <;> exact .inl rfl
theorem uF7 {o a b : Val} : (nY7 o a b).1 = a ∨ (nY7 o a b).1 = b := by
 unfold nY7
 split
 ·exact gG7
 ·split
  ·exact .inl rfl
  ·exact .inr rfl
section
variable {o a b : Feat}
theorem yM7 (k : Str) : (tOf o a b k).length ≤ 1 := by
 unfold tOf
 split <;> simp
theorem yN7 (k : Str) : (wOf o a b k).length ≤ 1 := by
 unfold wOf
 split <;> simp
theorem wf {k : Str} {p : Bool} (h : (mT o a b k).2 = p) : wOf o a b k = if p = true then [] else [tagW ++ k] := by
 unfold wOf
 rw [h]
theorem tf {k : Str} {p : Bool} (h : (mT o a b k).1.has = p) : tOf o a b k = if p = true then [⟨k, (mT o a b k).1.val⟩] else [] := by
 unfold tOf
 rw [h]
theorem A67 {α β : Type} {f : α → List β} (h : ∀ x, (f x).length ≤ 1) : ∀ l : List α, (l.flatMap f).length ≤ l.length
 | [] => by simp
 | x :: l => by
  have h1 := h x
  have h2 := A67 h l
  simp only [List.flatMap_cons, List.length_append, List.length_cons]
  omega
theorem s07 {k : Str} (h : k.size ≤ 1000) : cat (⟨#[116, 97, 103, 32]⟩ : Str) k = some (tagW ++ k) := by
 unfold cat
 rw [if_pos]
 ·rfl
 ·show 4 + k.size ≤ _
  omega
theorem uG7 (ho : g17 o) (ha : g17 a) (hb : g17 b) : ∀ (l : List Str) (j : Nat) (w : List Str) (ts : List Tag), (∀ k, k ∈ l → k.size ≤ 7) → w.length + l.length ≤ 1000 → ts.length + l.length ≤ 1000 → cO7 o a b l j w ts = some (w ++ l.flatMap (wOf o a b), ts ++ l.flatMap (tOf o a b))
 | [], j, w, ts, hk, hw, ht => by simp [cO7]
 | k :: l, j, w, ts, hk, hw, ht => by
  have h1 := ho.tags; have h2 := ha.tags; have h3 := hb.tags
  have hks := hk k (by simp)
  simp only [List.length_cons] at hw ht
  have ih := fun w ts hw ht => uG7 ho ha hb l (j + 1) w ts (fun k h => hk k (by simp [h])) hw ht
  simp only [cO7]
  rw [Fc7 (by omega) (by omega) (by omega), Option.bind_some, show nY7 (b07 o.tags k) (b07 a.tags k) (b07 b.tags k) = mT o a b k from rfl, List.flatMap_cons, List.flatMap_cons]
  cases e1 : (mT o a b k).2 <;> cases e2 : (mT o a b k).1.has
  ·rw [if_pos (by simp), s07 (by omega), Option.bind_some, if_pos (aa7 (by simp; omega)), if_neg (by simp), ih _ _ (by simp; omega) (by omega)]
   rw [wf e1, tf e2]; simp
  ·rw [if_pos (by simp), s07 (by omega), Option.bind_some, if_pos (aa7 (by simp; omega)), if_pos (by simp), if_pos (aa7 (by simp; omega)), ih _ _ (by simp; omega) (by simp; omega)]
   rw [wf e1, tf e2]; simp
  ·rw [if_neg (by simp), if_neg (by simp), ih _ _ (by omega) (by omega)]
   rw [wf e1, tf e2]; simp
  ·rw [if_neg (by simp), if_pos (by simp), if_pos (aa7 (by simp; omega)), ih _ _ (by omega) (by simp; omega)]
   rw [wf e1, tf e2]; simp
theorem uH7 (ho : g17 o) (ha : g17 a) (hb : g17 b) : ∀ (l : List Str) (j : Nat) (w : List Str) (ts : List Tag), (∀ k, k ∈ l → k.size ≤ 7) → w.length + l.length ≤ 1000 → ts.length + l.length ≤ 1000 → dD7 a b o l j w ts = some (w ++ l.flatMap (wOf o a b), ts ++ l.flatMap (tOf o a b))
 | [], j, w, ts, hk, hw, ht => by simp [dD7]
 | k :: l, j, w, ts, hk, hw, ht => by
  have h1 := ho.tags; have h2 := ha.tags; have h3 := hb.tags
  have hks := hk k (by simp)
  simp only [List.length_cons] at hw ht
  have ih := fun w ts hw ht => uH7 ho ha hb l (j + 1) w ts (fun k h => hk k (by simp [h])) hw ht
  simp only [dD7]
  rw [l37 (by omega), Option.bind_some, l37 (by omega), Option.bind_some, l37 (by omega), Option.bind_some, A37, Option.bind_some, List.flatMap_cons, List.flatMap_cons]
  have e0 : mT o a b k = nY7 (b07 o.tags k) (b07 a.tags k) (b07 b.tags k) := rfl
  have key : ((if (!(a77 (b07 o.tags k) (b07 a.tags k) (b07 b.tags k)).2) = true then ((cat (⟨#[116, 97, 103, 32]⟩ : Str) k).bind fun x292 => if aH7 (w ++ ([x292] : (List Str))).length = true then if (!(b07 a.tags k).has) = true then (some ((w ++ ([x292] : (List Str))), (b07 b.tags k).has, (b07 b.tags k).val)) else (some ((w ++ ([x292] : (List Str))), (b07 a.tags k).has, (b07 a.tags k).val)) else none) else (some (w, (a77 (b07 o.tags k) (b07 a.tags k) (b07 b.tags k)).1.has, (a77 (b07 o.tags k) (b07 a.tags k) (b07 b.tags k)).1.val)) : Option ((List Str) × Bool × Str))) = some (w ++ wOf o a b k, (mT o a b k).1.has, (mT o a b k).1.val) := by
   unfold wOf
   rw [e0]
   unfold nY7
   cases e1 : (a77 (b07 o.tags k) (b07 a.tags k) (b07 b.tags k)).2
   ·rw [if_pos (by simp), s07 (by omega), Option.bind_some, if_pos (aa7 (by simp; omega))]
    cases e2 : (b07 a.tags k).has <;> simp [e2]
   ·simp [e1]
  refine (congrArg (fun z => Option.bind z _) key).trans ?_
  simp only [Option.bind_some]
  have hwl := yN7 (o := o) (a := a) (b := b) k
  cases e2 : (mT o a b k).1.has
  ·rw [if_neg (by simp), ih _ _ (by simp; omega) (by omega)]
   rw [tf e2]; simp
  ·rw [if_pos (by simp), if_pos (aa7 (by simp; omega)), ih _ _ (by simp; omega) (by simp; omega)]
   rw [tf e2]; simp
end
def a37 (o a b : aD7) : aD7 × Bool := if (a77 o a b).2 = true then a77 o a b else if a.kind = b.kind ∧ a.kind = o.kind then (match gE7 o.pts a.pts b.pts with
 | some p => if co7 ⟨a.kind, p⟩ = true then (⟨a.kind, p⟩, true) else (a, false)
 | none => (a, false)) else (a, false)
theorem A77 {o a b : aD7} (ha : a.pts.length ≤ 1048576) (hb : b.pts.length ≤ 1048576) : qT7 o a b = some (a77 o a b) := by
 unfold qT7 a77
 rw [fP7 ha, Option.bind_some]
 by_cases h1 : a = o
 ·rw [if_pos (decide_eq_true h1), if_pos h1]
 ·rw [if_neg (by simp [h1]), if_neg h1, fP7 hb, Option.bind_some]
  by_cases h2 : b = o
  ·rw [if_pos (decide_eq_true h2), if_pos h2]
  ·rw [if_neg (by simp [h2]), if_neg h2, fP7 ha, Option.bind_some]
   by_cases h3 : a = b
   ·rw [if_pos (decide_eq_true h3), if_pos h3]
   ·rw [if_neg (by simp [h3]), if_neg h3]
theorem yO7 {o a b : List Pt} {pa pb : List cI7} (ho : o.length ≤ 12) (ha : a.length ≤ 12) (hb : b.length ≤ 12) : ∀ (n at_ i j k : Nat) (out p : List Pt), mg o a b pa pb n at_ i j k out = some p → p.length ≤ out.length + 13 * n + 12
 | 0, at_, i, j, k, out, p, h => by
  simp only [mg] at h
  cases hp : pick (md7 o i at_) (a.drop j) (b.drop k) with
  | none => rw [hp] at h; cases h
  | some q =>
   have hq := iO7 (by rw [List.length_drop]; omega) (by rw [List.length_drop]; omega) hp
   rw [hp] at h
   cases h
   simp
   omega
 | n + 1, at_, i, j, k, out, p, h => by
  simp only [mg] at h
  split at h
  ·rename_i x y hx hy
   cases hp : pick (md7 o i at_) (md7 a j x) (md7 b k y) with
   | none => rw [hp] at h; cases h
   | some q =>
    have hq := iO7 (df7 (i := j) (j := x) ha) (df7 (i := k) (j := y) hb) hp
    rw [hp] at h
    have := yO7 ho ha hb n _ _ _ _ _ _ h
    have h2 : (o[at_]?).toList.length ≤ 1 := by cases o[at_]? <;> simp
    simp only [List.length_append] at this
    omega
  ·have := yO7 ho ha hb n _ _ _ _ _ _ h
   omega
theorem ju7 {o a b p : List Pt} (ho : o.length ≤ 12) (ha : a.length ≤ 12) (hb : b.length ≤ 12) (h : gE7 o a b = some p) : p.length ≤ 200 := by
 have := yO7 ho ha hb _ _ _ _ _ _ _ h
 simp at this
 omega
theorem jv7 {o a b : aD7} (h1 : ¬a = o) (h2 : ¬b = o) (h3 : ¬a = b) : a37 o a b = if a.kind = b.kind ∧ a.kind = o.kind then (match gE7 o.pts a.pts b.pts with
 | some p => if co7 ⟨a.kind, p⟩ = true then (⟨a.kind, p⟩, true) else (a, false)
 | none => (a, false)) else (a, false) := by
 unfold a37 a77
 rw [if_neg h1, if_neg h2, if_neg h3, if_neg (fun h => by cases h)]
theorem dV7 {o a b : aD7} (h : a = o ∨ b = o ∨ a = b) : a37 o a b = a77 o a b := by
 unfold a37
 rw [if_pos]
 unfold a77
 by_cases h1 : a = o
 ·simp [h1]
 ·by_cases h2 : b = o
  ·simp [h1, h2]
  ·by_cases h3 : a = b
   ·simp [h1, h2, h3]
   ·simp_all
theorem yP7 {o a b : aD7} (ho : o.pts.length ≤ 12) (ha : a.pts.length ≤ 12) (hb : b.pts.length ≤ 12) : qu7 o a b = some (a37 o a b) := by
 unfold qu7
 rw [fO7 (by omega), Option.bind_some]
 by_cases h1 : a = o
 ·rw [if_pos (decide_eq_true h1), dV7 (.inl h1)]
  unfold a77
  rw [if_pos h1]
 ·rw [if_neg (by simp [h1]), fO7 (by omega), Option.bind_some]
  by_cases h2 : b = o
  ·rw [if_pos (decide_eq_true h2), dV7 (.inr (.inl h2))]
   unfold a77
   rw [if_neg h1, if_pos h2]
   rfl
  ·rw [if_neg (by simp [h2]), fO7 (by omega)]
   simp only [Option.bind_some]
   by_cases h3 : a = b
   ·rw [if_pos (decide_eq_true h3), dV7 (.inr (.inr h3))]
    unfold a77
    rw [if_neg h1, if_neg h2, if_pos h3]
   ·rw [if_neg (by simp [h3]), jv7 h1 h2 h3]
    by_cases k1 : a.kind = b.kind
    ·rw [if_neg (by simp [k1])]
     by_cases k2 : a.kind = o.kind
     ·rw [if_neg (by simp [k2]), if_pos ⟨k1, k2⟩, yK7 ho ha hb, Option.bind_some]
      unfold jt7
      cases hm : gE7 o.pts a.pts b.pts with
      | none => simp
      | some p =>
       have := ju7 ho ha hb hm
       simp only
       rw [if_neg (by simp), iH7 (by simp only; omega), Option.bind_some]
       cases co7 ⟨a.kind, p⟩ <;> simp
     ·rw [if_pos (by simp [k2]), if_neg (fun h => k2 h.2)]
    ·rw [if_pos (by simp [k1]), if_neg (fun h => k1 h.1)]
def shW : Str := ⟨#[115, 104, 97, 112, 101]⟩
def PL7 : Str := ⟨#[109, 117, 99, 104]⟩
def fjF (o a b : Feat) : Feat := ⟨a.id, (a37 o.shape a.shape b.shape).1, (eX7 o.tags a.tags b.tags).flatMap (tOf o a b)⟩
def fjW (o a b : Feat) : List Str := (if (a37 o.shape a.shape b.shape).2 = true then [] else [shW]) ++ (eX7 o.tags a.tags b.tags).flatMap (wOf o a b)
def mFJ (o a b : Feat) : Feat × List Str := if bj7 (fjF o a b) = true then (fjF o a b, fjW o a b) else (a, [PL7])
theorem A87 {xs : List Str} : (Go.Lib.compact xs).length ≤ xs.length := by
 unfold Go.Lib.compact Go.Lib.compactUpTo
 rw [List.length_map]
 exact Nat.le_trans (List.length_filter_le _ _) (by simp)
theorem iR7 {o a b : List Tag} : (eX7 o a b).length ≤ o.length + a.length + b.length := by
 have := A87 (xs := ((o ++ a ++ b).map (·.key)).mergeSort leS)
 unfold eX7
 simp only [List.length_mergeSort, List.length_map, List.length_append] at this
 omega
theorem hJ7 {o a b : aD7} (ho : o.pts.length ≤ 12) (ha : a.pts.length ≤ 12) (hb : b.pts.length ≤ 12) : (a37 o a b).1.pts.length ≤ 200 := by
 by_cases h : a = o ∨ b = o ∨ a = b
 ·rw [dV7 h]
  rcases gG7 (o := o) (a := a) (b := b) with h | h <;> rw [h] <;> omega
 ·rw [jv7 (fun e => h (.inl e)) (fun e => h (.inr (.inl e))) (fun e => h (.inr (.inr e)))]
  split
  ·split
   ·rename_i p hp
    split
    ·exact ju7 ho ha hb hp
    ·simp only; omega
   ·simp only; omega
  ·simp only; omega
theorem iS7 {o a b : Feat} (ho : g17 o) (ha : g17 a) (hb : g17 b) : ∀ k, k ∈ eX7 o.tags a.tags b.tags → k.size ≤ 7 := fun k hk => by
 rcases iQ7.1 hk with h | h | h
 ·obtain ⟨t, ht, rfl⟩ := List.mem_map.1 h; exact (ho.key t ht).1
 ·obtain ⟨t, ht, rfl⟩ := List.mem_map.1 h; exact (ha.key t ht).1
 ·obtain ⟨t, ht, rfl⟩ := List.mem_map.1 h; exact (hb.key t ht).1
theorem l87 {α : Type} {w : α → Nat} {c : Nat} : ∀ {l : List α}, (∀ x, x ∈ l → w x ≤ c) → ie7 w l ≤ l.length * c
 | [], h => by simp [ie7]
 | x :: l, h => by
  have h1 := h x (by simp)
  have h2 := l87 (l := l) fun y hy => h y (by simp [hy])
  simp only [ie7, List.length_cons, Nat.add_mul]
  omega
theorem Qv7 {o a b : Feat} (ho : g17 o) (ha : g17 a) (hb : g17 b) : aZ7 (fjF o a b) ≤ 1000 := by
 have h1 := hJ7 (o := o.shape) (a := a.shape) (b := b.shape) (by have := ho.pts; omega) (by have := ha.pts; omega) (by have := hb.pts; omega)
 have h2 := iR7 (o := o.tags) (a := a.tags) (b := b.tags)
 have h3 := A67 (f := tOf o a b) (fun k => yM7 k) (eX7 o.tags a.tags b.tags)
 have t1 := ho.tags; have t2 := ha.tags; have t3 := hb.tags
 have h4 : ie7 sr7 ((eX7 o.tags a.tags b.tags).flatMap (tOf o a b)) ≤ ((eX7 o.tags a.tags b.tags).flatMap (tOf o a b)).length * 14 := l87 fun t ht => by
  obtain ⟨k, hk, hkt⟩ := List.mem_flatMap.1 ht
  have hs := iS7 ho ha hb k hk
  unfold tOf at hkt
  split at hkt
  ·simp only [List.mem_singleton] at hkt
   subst hkt
   have v1 := rS7 (k := k) ha.key
   have v2 := rS7 (k := k) hb.key
   unfold sr7
   simp only
   rcases uF7 (o := b07 o.tags k) (a := b07 a.tags k) (b := b07 b.tags k) with e | e
   ·have : (mT o a b k).1.val.size ≤ 7 := by unfold mT; rw [e]; exact v1
    omega
   ·have : (mT o a b k).1.val.size ≤ 7 := by unfold mT; rw [e]; exact v2
    omega
  ·simp at hkt
 have h5 := p87 (a37 o.shape a.shape b.shape).1.pts
 have h6 := ha.id
 unfold fjF aZ7 g77 wL
 simp only
 omega
theorem A97 {o a b : Feat} (ho : bj7 o = true) (ha : bj7 a = true) (hb : bj7 b = true) : qx7 o a b = some (mFJ o a b) := by
 have bo := gF7 ho; have ba := gF7 ha; have bb := gF7 hb
 have p1 := bo.pts; have p2 := ba.pts; have p3 := bb.pts
 have t1 := bo.tags; have t2 := ba.tags; have t3 := bb.tags
 have hp := hJ7 (o := o.shape) (a := a.shape) (b := b.shape) (by omega) (by omega) (by omega)
 have hk := iR7 (o := o.tags) (a := a.tags) (b := b.tags)
 have hw := Qv7 bo ba bb
 have hwa := l17 ha
 unfold qx7
 rw [yP7 (by omega) (by omega) (by omega)]
 simp only [Option.bind_some]
 have k1 : ((if (!(a37 o.shape a.shape b.shape).2) = true then (if aH7 ([] ++ ([(⟨#[115, 104, 97, 112, 101]⟩ : Str)] : (List Str))).length = true then some ([] ++ ([(⟨#[115, 104, 97, 112, 101]⟩ : Str)] : (List Str))) else none) else (some []) : Option (List Str))) = some (if (a37 o.shape a.shape b.shape).2 = true then [] else [shW]) := by
  cases (a37 o.shape a.shape b.shape).2
  ·rw [if_pos (by rfl), if_pos (aa7 (by simp))]; rfl
  ·rfl
 rw [k1, Option.bind_some]
 have k2 : lv7 (⟨(a37 o.shape a.shape b.shape).1.kind, (a37 o.shape a.shape b.shape).1.pts⟩ : aD7) = some (a37 o.shape a.shape b.shape).1 := by
  unfold lv7
  rw [if_pos (aa7 (by simp; omega))]
  rfl
 rw [k2, Option.bind_some, A57 (by omega), Option.bind_some, if_pos (aa7 (by omega)), uG7 bo ba bb _ _ _ _ (iS7 bo ba bb) (by split <;> simp <;> omega) (by simp; omega), Option.bind_some]
 simp only [List.nil_append]
 have k3 : ls7 (⟨a.id, (a37 o.shape a.shape b.shape).1, (eX7 o.tags a.tags b.tags).flatMap (tOf o a b)⟩ : Feat) = some (bj7 (fjF o a b)) := ug7 (f := fjF o a b) (by omega)
 rw [k3, Option.bind_some]
 unfold mFJ
 cases bj7 (fjF o a b)
 ·rw [if_pos (by rfl), kz7 (by omega)]; rfl
 ·rfl
theorem Ba7 {xs : List (List Tag)} (h : xs.length ≤ 1000) (hs : (xs.flatten).length ≤ 1000) : qR7 xs = some xs.flatten := by
 have k1 : ∀ (l : List (List Tag)) (k n : Nat), n + l.flatten.length ≤ 1000 → fH7 l k (n : Int) = some ((n + l.flatten.length : Nat) : Int) := by
  intro l
  induction l with
  | nil => intro k n _; rfl
  | cons x l ih =>
   intro k n h
   simp only [List.flatten_cons, List.length_append] at h ⊢
   simp only [fH7]
   rw [show IntKind.i64.wrap ((n : Int) + (x.length : Int)) = ((n + x.length : Nat) : Int) by rw [wr1 (by omega) (by omega)]; omega, if_neg (by simp; omega), ih _ _ (by omega)]
   congr 2
   omega
 have k2 : ∀ (l : List (List Tag)) (k : Nat) (v : List Tag), v.length + l.flatten.length ≤ 1000 → eo7 l k v = some (v ++ l.flatten) := by
  intro l
  induction l with
  | nil => intro k v _; simp [eo7]
  | cons x l ih =>
   intro k v h
   simp only [List.flatten_cons, List.length_append] at h ⊢
   simp only [eo7]
   rw [if_pos (aa7 (by rw [List.length_append]; omega)), ih _ _ (by rw [List.length_append]; omega)]
   simp
 have h1 := k1 xs 0 0 (by omega)
 unfold qR7 BZ7 xj7
 rw [if_pos (aa7 (by omega))]
 refine (congrArg (fun z => Option.bind z _) h1).trans ?_
 simp only [Option.bind_some, Nat.zero_add]
 rw [if_pos (by rw [decide_eq_true (by omega), decide_eq_true (by omega)]; rfl), Option.bind_some, if_pos (aa7 (by omega)), k2 xs 0 [] (by rw [List.length_nil]; omega)]
 rfl
def Ml7 (o a b : Feat) : Feat × List Str := if (bj7 o && (bj7 a && (bj7 b && (decide (o.id = a.id) && decide (o.id = b.id))))) = true then mFJ o a b else (nF, [])
theorem vJ7 {o a b : Feat} (wo : aZ7 o ≤ 1048576) (wa : aZ7 a ≤ 1048576) (wb : aZ7 b ≤ 1048576) : qV7 o a b = some (Ml7 o a b) := by
 unfold qV7 Ml7
 rw [iI7 wo, iI7 wa, iI7 wb, bS7, bS7]
 cases ho : bj7 o
 ·rfl
 cases ha : bj7 a
 ·rfl
 cases hb : bj7 b
 ·rfl
 by_cases i1 : o.id = a.id
 case neg => simp [i1, nF]
 by_cases i2 : o.id = b.id
 case neg => rw [i1] at i2; simp [i1, i2, nF]
 have bo := gF7 ho; have ba := gF7 ha; have bb := gF7 hb
 have p1 := bo.pts; have p2 := ba.pts; have p3 := bb.pts
 have t1 := bo.tags; have t2 := ba.tags; have t3 := bb.tags
 have hp := hJ7 (o := o.shape) (a := a.shape) (b := b.shape) (by omega) (by omega) (by omega)
 have hk := iR7 (o := o.tags) (a := a.tags) (b := b.tags)
 have hw := Qv7 bo ba bb
 have hwa := l17 ha
 simp only [Bool.not_true, Bool.false_eq_true, if_false, Option.bind_some, decide_eq_true i1, decide_eq_true i2, if_true, Bool.and_self, Bool.true_and]
 rw [A77 (by omega) (by omega)]
 simp only [Option.bind_some]
 have k1 : ((if (!(a77 o.shape a.shape b.shape).2) = true then (((if (o.shape.kind == a.shape.kind) = true then (if (o.shape.kind == b.shape.kind) = true then ((nC7 o.shape.pts a.shape.pts b.shape.pts).bind fun x56 => if x56.2 = true then ((lz7 (⟨a.shape.kind, x56.1⟩ : aD7)).bind fun x61 => if x61 = true then (some (true, a.shape.kind, x56.1)) else (some (false, (a77 o.shape a.shape b.shape).1.kind, (a77 o.shape a.shape b.shape).1.pts))) else (some (false, (a77 o.shape a.shape b.shape).1.kind, (a77 o.shape a.shape b.shape).1.pts))) else (some (false, (a77 o.shape a.shape b.shape).1.kind, (a77 o.shape a.shape b.shape).1.pts))) else (some (false, (a77 o.shape a.shape b.shape).1.kind, (a77 o.shape a.shape b.shape).1.pts)) : Option (Bool × Int × (List Pt)))).bind fun q55 => if (!q55.1) = true then (if aH7 ([] ++ ([(⟨#[115, 104, 97, 112, 101]⟩ : Str)] : (List Str))).length = true then some (([] ++ ([(⟨#[115, 104, 97, 112, 101]⟩ : Str)] : (List Str))), q55.2.1, q55.2.2) else none) else (some ([], q55.2.1, q55.2.2))) else (some ([], (a77 o.shape a.shape b.shape).1.kind, (a77 o.shape a.shape b.shape).1.pts)) : Option ((List Str) × Int × (List Pt)))) =
   some (if (a37 o.shape a.shape b.shape).2 = true then [] else [shW], (a37 o.shape a.shape b.shape).1.kind, (a37 o.shape a.shape b.shape).1.pts) := by
  by_cases h : a.shape = o.shape ∨ b.shape = o.shape ∨ a.shape = b.shape
  ·have h2 : (a77 o.shape a.shape b.shape).2 = true := by
    unfold a77
    by_cases h1 : a.shape = o.shape
    ·simp [h1]
    ·by_cases h2 : b.shape = o.shape
     ·simp [h1, h2]
     ·have h3 : a.shape = b.shape := by simp_all
      rw [if_neg h1, if_neg h2, if_pos h3]
   rw [dV7 h, h2]
   rfl
  ·have n1 : ¬ a.shape = o.shape := fun e => h (.inl e)
   have n2 : ¬ b.shape = o.shape := fun e => h (.inr (.inl e))
   have n3 : ¬ a.shape = b.shape := fun e => h (.inr (.inr e))
   have h2 : a77 o.shape a.shape b.shape = (a.shape, false) := by
    unfold a77
    rw [if_neg n1, if_neg n2, if_neg n3]
   have hj := jv7 n1 n2 n3
   rw [h2]
   simp only [Bool.not_false, if_true]
   by_cases q1 : o.shape.kind = a.shape.kind
   ·by_cases q2 : o.shape.kind = b.shape.kind
    ·rw [if_pos (by simpa using q1), if_pos (by simpa using q2), vI7 (by omega) (by omega) (by omega)]
     rw [if_pos ⟨q1.symm.trans q2, q1.symm⟩] at hj
     rw [hj]
     unfold jt7
     cases hm : gE7 o.shape.pts a.shape.pts b.shape.pts with
     | none => rfl
     | some p =>
      have := ju7 (by omega) (by omega) (by omega) hm
      simp only [Option.bind_some, if_true]
      rw [rw7 (by simp only; omega), Option.bind_some]
      by_cases hs : co7 ⟨a.shape.kind, p⟩ = true
      ·simp only [hs, if_true]; rfl
      ·simp only [hs]; rfl
    ·rw [if_neg (fun h => q2 (q1.trans h.1))] at hj
     rw [hj, if_pos (by simpa using q1), if_neg (by simpa using q2)]
     rfl
   ·rw [if_neg (fun h => q1 h.2.symm)] at hj
    rw [hj, if_neg (by simpa using q1)]
    rfl
 refine (congrArg (fun z => Option.bind z _) k1).trans ?_
 simp only [Option.bind_some]
 have k2 : lB7 (⟨(a37 o.shape a.shape b.shape).1.kind, (a37 o.shape a.shape b.shape).1.pts⟩ : aD7) = some (a37 o.shape a.shape b.shape).1 := by
  unfold lB7
  rw [if_pos (aa7 (by simp; omega))]
  rfl
 have k3 : ∀ (l : List Tag) (k : Nat) (v : List Str), v.length + l.length ≤ 1000 → jW7 l k v = some (v ++ l.map (·.key)) := by
  intro l
  induction l with
  | nil => intro k v _; simp [jW7]
  | cons x l ih =>
   intro k v h
   simp only [List.length_cons] at h
   simp only [jW7]
   rw [if_pos (aa7 (by simp; omega)), ih _ _ (by simp; omega)]
   simp
 have hfl : ([o.tags, a.tags, b.tags] : List (List Tag)).flatten = o.tags ++ a.tags ++ b.tags := by simp
 rw [k2, Option.bind_some, Ba7 (by simp) (by rw [hfl]; simp; omega), Option.bind_some, hfl, if_pos (aa7 (by simp; omega)), k3 _ 0 [] (by simp; omega), Option.bind_some, List.nil_append]
 unfold qN7 t57 p27 vo7
 rw [if_pos (aa7 (by simp; omega)), Option.bind_some, if_pos (aa7 (by simp [List.length_mergeSort]; omega)), Option.bind_some, show Go.Lib.compact (((o.tags ++ a.tags ++ b.tags).map (·.key)).mergeSort leS) = eX7 o.tags a.tags b.tags from rfl, if_pos (aa7 (by omega)), uH7 bo ba bb _ _ _ _ (iS7 bo ba bb) (by split <;> simp <;> omega) (by simp; omega), Option.bind_some]
 simp only [List.nil_append]
 have k4 : ha7 (⟨a.id, (a37 o.shape a.shape b.shape).1, (eX7 o.tags a.tags b.tags).flatMap (tOf o a b)⟩ : Feat) = some (bj7 (fjF o a b)) := iI7 (f := fjF o a b) (by omega)
 rw [k4, Option.bind_some]
 unfold mFJ
 cases bj7 (fjF o a b)
 ·rw [if_pos (by rfl), hE7 (by omega)]; rfl
 ·rfl
def vK7 : Str := ⟨#[103, 111, 110, 101]⟩
def Fe7 : Str := ⟨#[98, 111, 116, 104]⟩
def mJ1 (o a b : Feat × Bool) : (Feat × Bool) × List Str :=
 if (a77 o a b).2 = true then ((a77 o a b).1, [])
 else if a.2 = false then ((b.1, true), [vK7])
 else if b.2 = false then ((a.1, true), [vK7])
 else if o.2 = false then ((a.1, true), [Fe7])
 else (((mFJ o.1 a.1 b.1).1, true), (mFJ o.1 a.1 b.1).2)
def bC7 (o a b : List Feat) (id : Str) : (Feat × Bool) × List Str := mJ1 (a67 o id) (a67 a id) (a67 b id)
def g27 (o a b : List Feat) : List Str := FA7 (a.foldl (fun v x => hL7 x v) o) b
theorem kE7 {o a b : List Feat} (h : Pw o) : SPw (g27 o a b) := E87 (sV7 h)
theorem gH7 {o a b : List Feat} {i : Str} : i ∈ g27 o a b ↔ i ∈ o.map (·.id) ∨ i ∈ a.map (·.id) ∨ i ∈ b.map (·.id) := by
 unfold g27 FA7
 rw [o47, o47, or_assoc]
theorem Bb7 {o a b : List Feat} (hp : Pw o) (ha : o.length + a.length + b.length ≤ 1000) : qS7 [o, a, b] = some (g27 o a b) := by
 have k5 : ∀ (l : List Feat) (k : Nat) (v : List Str), v.length + l.length ≤ 1000 → ep7 l k v = some (v ++ l.map (·.id)) := by
  intro l
  induction l with
  | nil => intro k v _; simp [ep7]
  | cons x l ih =>
   intro k v h
   simp only [List.length_cons] at h
   simp only [ep7]
   rw [if_pos (aa7 (by simp; omega)), ih _ _ (by simp; omega)]
   simp
 have hm : ((o.map (·.id) ++ a.map (·.id) ++ b.map (·.id)).mergeSort leS).length ≤ 1000 := by rw [List.length_mergeSort]; simp; omega
 unfold qS7
 simp only [gT7, aa7 (n := [o, a, b].length) (by simp), aa7 (n := o.length) (by omega), aa7 (n := a.length) (by omega), aa7 (n := b.length) (by omega), k5 o 0 [] (by simp; omega), k5 a 0 (o.map (·.id)) (by simp; omega), k5 b 0 (o.map (·.id) ++ a.map (·.id)) (by simp; omega), if_true, Option.bind_some, List.nil_append, qN7, p27, aa7 (n := (o.map (·.id) ++ a.map (·.id) ++ b.map (·.id)).length) (by simp; omega), t57, vo7, aa7 (n := ((o.map (·.id) ++ a.map (·.id) ++ b.map (·.id)).mergeSort leS).length) (by omega)]
 congr 1
 refine o37 (yF7 (List.pairwise_mergeSort rI7 rJ7 _)) (kE7 hp) fun x => ?_
 rw [uz7, (List.mergeSort_perm _ leS).mem_iff, List.mem_append, List.mem_append, gH7, or_assoc]
theorem kF7 : ∀ {l v : List Feat}, (l.foldl (fun v x => hL7 x v) v).length ≤ v.length + l.length
 | [], v => by simp
 | x :: l, v => by
  have h1 := iN7 (f := x) v
  have h2 := kF7 (l := l) (v := hL7 x v)
  simp only [List.foldl_cons, List.length_cons]
  omega
theorem Ff7 {o a b : List Feat} (ha : o.length + a.length + b.length ≤ 1000) : qy7 o a b = some (g27 o a b) := by
 have k1 : ∀ (l : List Feat) (k : Nat) (v : List Feat), v.length + l.length ≤ 1000 → ft7 l k v = some (l.foldl (fun v x => hL7 x v) v) := by
  intro l
  induction l with
  | nil => intro k v _; rfl
  | cons x l ih =>
   intro k v h
   simp only [List.length_cons] at h
   have hp := iN7 (f := x) v
   simp only [ft7]
   rw [yC7 (by omega), Option.bind_some, ih (k + 1) (hL7 x v) (by omega), List.foldl_cons]
 have hl := kF7 (l := a) (v := o)
 unfold qy7 g27
 rw [if_pos (aa7 (by omega)), k1 a 0 o (by omega), Option.bind_some, AX7 (by omega)]
 rfl
theorem iT7 {o a b : List Feat} : (g27 o a b).length ≤ o.length + a.length + b.length := by
 have h1 := kF7 (l := a) (v := o)
 have h2 := kF7 (l := b) (v := a.foldl (fun v x => hL7 x v) o)
 unfold g27 FA7
 rw [List.length_map]
 omega
theorem bk7 {s : List Feat} {id : Str} (h : ∀ f, f ∈ s → bj7 f = true) (h2 : (a67 s id).2 = true) : bj7 (a67 s id).1 = true := by
 unfold a67 at h2 ⊢
 split
 ·rename_i f e
  exact h f (List.mem_of_find?_eq_some e)
 ·rename_i e
  rw [e] at h2
  cases h2
theorem dq7 {s : List Feat} {id : Str} (h : (a67 s id).2 = false) : a67 s id = (nF, false) := by
 unfold a67 at h ⊢
 split
 ·rename_i f e
  rw [e] at h
  cases h
 ·rfl
theorem s17 {s : List Feat} (h : aN7 s = true) : ∀ f, f ∈ s → bj7 f = true := fun f hf => by
 unfold aN7 at h
 rw [Bool.and_eq_true] at h
 obtain ⟨j, hj⟩ := Fz7 h.1 hf
 rw [Bool.and_eq_true] at hj
 exact hj.1
theorem Fg7 {o a b : List Feat} {id : Str} (wo : wL aZ7 o ≤ 1048576) (wa : wL aZ7 a ≤ 1048576) (wb : wL aZ7 b ≤ 1048576) (fo : ∀ f, f ∈ o → bj7 f = true) (fa : ∀ f, f ∈ a → bj7 f = true) (fb : ∀ f, f ∈ b → bj7 f = true) : qz7 o a b id = some ((bC7 o a b id).1.1, (bC7 o a b id).1.2, (bC7 o a b id).2) := by
 unfold qz7 bC7
 have s1 := nU7 (s := o) (id := id)
 have s2 := nU7 (s := a) (id := id)
 have s3 := nU7 (s := b) (id := id)
 have n1 := dq7 (s := o) (id := id)
 have n2 := dq7 (s := a) (id := id)
 have n3 := dq7 (s := b) (id := id)
 have m1 := bk7 (id := id) fo
 have m2 := bk7 (id := id) fa
 have m3 := bk7 (id := id) fb
 rw [o17 wo, o17 wa, o17 wb]
 generalize a67 o id = so at *
 generalize a67 a id = sa at *
 generalize a67 b id = sb at *
 obtain ⟨ofe, oh⟩ := so
 obtain ⟨af, ah⟩ := sa
 obtain ⟨bf, bh⟩ := sb
 simp only at s1 s2 s3 n1 n2 n3 m1 m2 m3
 have e : (⟨af.id, ⟨af.shape.kind, af.shape.pts⟩, af.tags⟩ : Feat) = af := rfl
 simp only [Option.bind_some, e]
 rw [gU7 (a := af) (b := ofe) (by omega), gU7 (a := bf) (b := ofe) (by omega), gU7 (a := af) (b := bf) (by omega)]
 simp only [Option.bind_some]
 unfold mJ1 a77
 simp only [Prod.mk.injEq]
 cases oh <;> cases ah <;> cases bh
 ·obtain rfl := (Prod.mk.inj (n1 rfl)).1
  obtain rfl := (Prod.mk.inj (n2 rfl)).1
  obtain rfl := (Prod.mk.inj (n3 rfl)).1
  simp
 ·obtain rfl := (Prod.mk.inj (n1 rfl)).1
  obtain rfl := (Prod.mk.inj (n2 rfl)).1
  simp
 ·obtain rfl := (Prod.mk.inj (n1 rfl)).1
  obtain rfl := (Prod.mk.inj (n3 rfl)).1
  simp
 ·by_cases h : af = bf <;> simp [h, Fe7]
 ·obtain rfl := (Prod.mk.inj (n2 rfl)).1
  obtain rfl := (Prod.mk.inj (n3 rfl)).1
  simp
 ·by_cases h : bf = ofe <;> simp [h, vK7]
 ·by_cases h : af = ofe <;> simp [h, vK7]
 ·by_cases h1 : af = ofe
  ·simp [h1]
  ·by_cases h2 : bf = ofe
   ·simp [h1, h2]
   ·by_cases h3 : af = bf
    ·subst h3
     simp [h1]
    ·simp [h1, h2, h3, A97 (m1 rfl) (m2 rfl) (m3 rfl)]
def oF (o a b : List Feat) (id : Str) : List Feat := if (bC7 o a b id).1.2 = true then [(bC7 o a b id).1.1] else []
def oC (o a b : List Feat) (id : Str) : List aL7 := (bC7 o a b id).2.map fun w => ⟨id, w⟩
def sjF (o a b : List Feat) : List Feat := (g27 o a b).flatMap (oF o a b)
def sjC (o a b : List Feat) : List aL7 := (g27 o a b).flatMap (oC o a b)
def mSJ (o a b : List Feat) : List Feat × List aL7 × Bool := if (aN7 o && (aN7 a && (aN7 b && aN7 (sjF o a b)))) = true then (sjF o a b, sjC o a b, true) else ([], [], false)
theorem Bc7 {o a b : Feat} (ha : bj7 a = true) : bj7 (mFJ o a b).1 = true := by
 unfold mFJ
 split
 ·assumption
 ·exact ha
theorem Fh7 {o a b : Feat} (ho : g17 o) (ha : g17 a) (hb : g17 b) : (fjW o a b).length ≤ 13 := by
 have hk := iR7 (o := o.tags) (a := a.tags) (b := b.tags)
 have t1 := ho.tags; have t2 := ha.tags; have t3 := hb.tags
 have h3 := A67 (f := wOf o a b) (fun k => yN7 k) (eX7 o.tags a.tags b.tags)
 unfold fjW
 rw [List.length_append]
 split
 ·rw [List.length_nil]; omega
 ·rw [List.length_singleton]; omega
section
variable {o a b : List Feat}
structure Sh (s : List Feat) : Prop where
 w : wL aZ7 s ≤ 1048576
 f : ∀ f, f ∈ s → bj7 f = true
theorem yQ7 (ho : Sh o) (ha : Sh a) (hb : Sh b) (id : Str) (h : (bC7 o a b id).1.2 = true) : bj7 (bC7 o a b id).1.1 = true := by
 have n1 := dq7 (s := o) (id := id)
 have n2 := dq7 (s := a) (id := id)
 have n3 := dq7 (s := b) (id := id)
 have m1 := bk7 (id := id) ho.f
 have m2 := bk7 (id := id) ha.f
 have m3 := bk7 (id := id) hb.f
 unfold bC7 at h ⊢
 generalize a67 o id = so at *
 generalize a67 a id = sa at *
 generalize a67 b id = sb at *
 unfold mJ1 at h ⊢
 split at h
 ·rename_i ht
  rw [if_pos ht]
  rcases gG7 (o := so) (a := sa) (b := sb) with e | e
  ·rw [e] at h ⊢; exact m2 h
  ·rw [e] at h ⊢; exact m3 h
 ·rename_i ht
  rw [if_neg ht]
  by_cases h1 : sa.2 = false
  ·rw [if_pos h1]
   apply m3
   cases hb2 : sb.2 with
   | true => rfl
   | false =>
    exfalso
    apply ht
    have e : sa = sb := by rw [n2 h1, n3 hb2]
    unfold a77
    rw [e]
    by_cases q : sb = so <;> simp [q]
  ·rw [if_neg h1]
   have h1 : sa.2 = true := by cases h : sa.2 <;> simp_all
   split
   ·exact m2 h1
   ·split
    ·exact m2 h1
    ·exact Bc7 (m2 h1)
theorem yR7 (ho : Sh o) (ha : Sh a) (hb : Sh b) (id : Str) : (bC7 o a b id).2.length ≤ 13 := by
 have m1 := bk7 (id := id) ho.f
 have m2 := bk7 (id := id) ha.f
 have m3 := bk7 (id := id) hb.f
 unfold bC7
 generalize a67 o id = so at *
 generalize a67 a id = sa at *
 generalize a67 b id = sb at *
 unfold mJ1
 split
 ·simp
 ·split
  ·simp
  ·split
   ·simp
   ·split
    ·simp
    ·rename_i h1 h2 h3
     have b1 := gF7 (m1 (by cases h : so.2 <;> simp_all))
     have b2 := gF7 (m2 (by cases h : sa.2 <;> simp_all))
     have b3 := gF7 (m3 (by cases h : sb.2 <;> simp_all))
     have := Fh7 b1 b2 b3
     unfold mFJ
     split
     ·exact this
     ·simp
theorem uI7 (id : Str) : (oF o a b id).length ≤ 1 := by
 unfold oF
 split <;> simp
theorem cl5 {id : Str} : ∀ (l : List Str) (k : Nat) (v : List aL7), v.length + l.length ≤ 1048576 → ed7 id l k v = some (v ++ l.map fun w => ⟨id, w⟩)
 | [], k, v, _ => by simp [ed7]
 | x :: l, k, v, h => by
  simp only [List.length_cons] at h
  simp only [ed7]
  rw [if_pos (aa7 (by simp; omega)), cl5 l _ _ (by simp; omega)]
  simp
theorem cl9 {id : Str} : ∀ (l : List Str) (k : Nat) (v : List aL7), v.length + l.length ≤ 1048576 → eq7 id l k v = some (v ++ l.map fun w => ⟨id, w⟩)
 | [], k, v, _ => by simp [eq7]
 | x :: l, k, v, h => by
  simp only [List.length_cons] at h
  simp only [eq7]
  rw [if_pos (aa7 (by simp; omega)), cl9 l _ _ (by simp; omega)]
  simp
theorem of_ {id : Str} {p : Bool} (h : (bC7 o a b id).1.2 = p) : oF o a b id = if p = true then [(bC7 o a b id).1.1] else [] := by
 unfold oF
 rw [h]
theorem yS7 (ho : Sh o) (ha : Sh a) (hb : Sh b) : ∀ (l : List Str) (k : Nat) (v : List Feat) (c : List aL7), v.length + l.length ≤ 10000 → c.length + 13 * l.length ≤ 100000 → ee7 o a b l k v c = some (v ++ l.flatMap (oF o a b), c ++ l.flatMap (oC o a b))
 | [], k, v, c, _, _ => by simp [ee7]
 | x :: l, k, v, c, hv, hc => by
  simp only [List.length_cons] at hv hc
  have hl := yR7 ho ha hb x
  simp only [ee7]
  rw [Fg7 ho.w ha.w hb.w ho.f ha.f hb.f, Option.bind_some]
  simp only
  have k1 : ((if (bC7 o a b x).1.2 = true then (if aH7 (v ++ ([(bC7 o a b x).1.1] : (List Feat))).length = true then some (v ++ ([(bC7 o a b x).1.1] : (List Feat))) else none) else (some v) : Option (List Feat))) = some (v ++ oF o a b x) := by
   cases h : (bC7 o a b x).1.2
   ·rw [of_ h]; simp
   ·rw [of_ h, if_pos rfl, if_pos (aa7 (by simp; omega))]; rfl
  have hf := uI7 (o := o) (a := a) (b := b) x
  rw [k1, Option.bind_some, if_pos (aa7 (by omega)), cl5 _ _ _ (by omega), Option.bind_some, yS7 ho ha hb l _ _ _ (by simp; omega) (by simp; omega), List.flatMap_cons, List.flatMap_cons, List.append_assoc, List.append_assoc]
  rfl
end
theorem bw7 {s : List Feat} (h : aN7 s = true) : s.length ≤ 8 := by
 unfold aN7 at h
 rw [Bool.and_eq_true] at h
 exact of_decide_eq_true h.2
theorem eG7 {s : List Feat} (h : aN7 s = true) : Sh s := by
 have hf := s17 h
 have hl := bw7 h
 have hw : ie7 aZ7 s ≤ s.length * 100 := l87 fun f hm => l17 (hf f hm)
 exact ⟨by unfold wL; omega, hf⟩
section
variable {o a b : List Feat}
theorem Fi7 : (sjF o a b).length ≤ o.length + a.length + b.length := by
 have h1 := A67 (f := oF o a b) (fun k => uI7 k) (g27 o a b)
 have h2 := iT7 (o := o) (a := a) (b := b)
 unfold sjF
 omega
theorem uJ7 (ho : Sh o) (ha : Sh a) (hb : Sh b) : ∀ f, f ∈ sjF o a b → bj7 f = true := fun f hf => by
 obtain ⟨id, _, h⟩ := List.mem_flatMap.1 hf
 unfold oF at h
 split at h
 ·rename_i h2
  rw [List.mem_singleton.1 h]
  exact yQ7 ho ha hb id h2
 ·simp at h
theorem Fj7 (ho : aN7 o = true) (ha : aN7 a = true) (hb : aN7 b = true) : wL aZ7 (sjF o a b) ≤ 10000 := by
 have h1 := Fi7 (o := o) (a := a) (b := b)
 have l1 := bw7 ho; have l2 := bw7 ha; have l3 := bw7 hb
 have hw : ie7 aZ7 (sjF o a b) ≤ (sjF o a b).length * 100 := l87 fun f hm => l17 (uJ7 (eG7 ho) (eG7 ha) (eG7 hb) f hm)
 unfold wL
 omega
theorem s27 (wo : wL aZ7 o ≤ 1048576) (wa : wL aZ7 a ≤ 1048576) (wb : wL aZ7 b ≤ 1048576) : qA7 o a b = some (mSJ o a b) := by
 unfold qA7 mSJ
 rw [eW7 wo, eW7 wa, eW7 wb]
 cases ho : aN7 o
 ·rfl
 cases ha : aN7 a
 ·rfl
 cases hb : aN7 b
 ·rfl
 have l1 := bw7 ho; have l2 := bw7 ha; have l3 := bw7 hb
 have hi := iT7 (o := o) (a := a) (b := b)
 have hw := Fj7 ho ha hb
 simp only [Option.bind_some, Bool.not_true, Bool.false_eq_true, if_false, Bool.true_and]
 unfold tY7
 rw [Ff7 (by omega), Option.bind_some, if_pos (aa7 (by omega)), yS7 (eG7 ho) (eG7 ha) (eG7 hb) _ _ _ _ (by simp; omega) (by simp; omega), Option.bind_some]
 simp only [List.nil_append]
 rw [show (g27 o a b).flatMap (oF o a b) = sjF o a b from rfl, un7 (by omega), Option.bind_some, eW7 (by omega)]
 cases aN7 (sjF o a b) <;> rfl
def th (p : Feat × Bool) : dh7 := ⟨p.2, p.1⟩
theorem l97 {s : List Feat} {id : Str} (h : wL aZ7 s ≤ 1048576) : lE7 s id = some (th (a67 s id)) := by
 unfold lE7
 rw [LP7 h]
 rfl
theorem yT7 {p q : Feat × Bool} (h : aZ7 p.1 ≤ 1048576) : lF7 (th p) (th q) = some (decide (p = q)) := by
 obtain ⟨f, x⟩ := p
 obtain ⟨g, y⟩ := q
 unfold lF7 th
 simp only
 rw [nK7 (a := f) (b := g) h]
 cases x <;> cases y <;> simp
theorem Bd7 {o a b : Feat × Bool} (ha : aZ7 a.1 ≤ 1048576) (hb : aZ7 b.1 ≤ 1048576) : qW7 (th o) (th a) (th b) = some (th (a77 o a b).1, (a77 o a b).2) := by
 unfold qW7 a77
 rw [yT7 ha, yT7 hb, yT7 ha]
 simp only [Option.bind_some]
 by_cases h1 : a = o
 ·simp [h1]
 ·by_cases h2 : b = o
  ·simp [h1, h2]
  ·by_cases h3 : a = b
   ·simp [h1, h2, h3]
   ·simp [h1, h2, h3]
theorem s37 (ho : Sh o) (ha : Sh a) (hb : Sh b) (hid : ∀ id, (a67 o id).2 = true → (a67 o id).1.id = id) (hia : ∀ id, (a67 a id).2 = true → (a67 a id).1.id = id) (hib : ∀ id, (a67 b id).2 = true → (a67 b id).1.id = id) : ∀ (l : List Str) (k : Nat) (c : List aL7) (v : List Feat), v.length + l.length ≤ 10000 → c.length + 13 * l.length ≤ 100000 → dE7 o a b l k c v = some (c ++ l.flatMap (oC o a b), v ++ l.flatMap (oF o a b))
 | [], k, c, v, _, _ => by simp [dE7]
 | x :: l, k, c, v, hv, hc => by
  simp only [List.length_cons] at hv hc
  have hl := yR7 ho ha hb x
  have hf := uI7 (o := o) (a := a) (b := b) x
  have hfe := yQ7 ho ha hb x
  have s1 := nU7 (s := o) (id := x)
  have s2 := nU7 (s := a) (id := x)
  have s3 := nU7 (s := b) (id := x)
  have w1 := ho.w; have w2 := ha.w; have w3 := hb.w
  have m1 := bk7 (id := x) ho.f
  have m2 := bk7 (id := x) ha.f
  have m3 := bk7 (id := x) hb.f
  have n2 := dq7 (s := a) (id := x)
  have n3 := dq7 (s := b) (id := x)
  have d1 := hid x; have d2 := hia x; have d3 := hib x
  simp only [dE7]
  rw [l97 ho.w, Option.bind_some, l97 ha.w, Option.bind_some, l97 hb.w, Option.bind_some]
  simp only [Option.bind_some]
  have e1 : ∀ p : Feat × Bool, (⟨(th p).has, ⟨(th p).f.id, ⟨(th p).f.shape.kind, (th p).f.shape.pts⟩, (th p).f.tags⟩⟩ : dh7) = th p := fun p => rfl
  have e2 : ∀ p : Feat × Bool, (⟨(th p).f.id, ⟨(th p).f.shape.kind, (th p).f.shape.pts⟩, (th p).f.tags⟩ : Feat) = p.1 := fun p => rfl
  have e3 : ∀ p : Feat × Bool, (th p).has = p.2 := fun p => rfl
  have e5 : ∀ p : Feat × Bool, (⟨p.2, p.1⟩ : dh7) = th p := fun p => rfl
  simp only [e2, e3, e5]
  rw [Bd7 (by omega) (by omega), Option.bind_some]
  have hj : bC7 o a b x = mJ1 (a67 o x) (a67 a x) (a67 b x) := rfl
  refine (congrArg (fun z => Option.bind z _) (?_ : _ = some (c ++ oC o a b x, (bC7 o a b x).1.2, (bC7 o a b x).1.1.id, (bC7 o a b x).1.1.shape.kind, (bC7 o a b x).1.1.shape.pts, (bC7 o a b x).1.1.tags))).trans ?_
  ·unfold oC
   rw [hj] at hl ⊢
   generalize a67 o x = so at *
   generalize a67 a x = sa at *
   generalize a67 b x = sb at *
   simp only [e3]
   unfold mJ1 at hl ⊢
   by_cases ht : (a77 so sa sb).2 = true
   ·rw [if_pos ht, if_pos ht]
    simp [th]
   ·rw [if_neg ht] at hl ⊢
    rw [if_neg ht]
    by_cases h1 : sa.2 = false
    ·have e : (!sa.2) = true := by rw [h1]; rfl
     rw [if_pos e, if_pos e, if_pos h1, if_pos (aa7 (by simp; omega))]
     have hb2 : sb.2 = true := by
      cases hb2 : sb.2 with
      | true => rfl
      | false =>
       exfalso
       apply ht
       have e : sa = sb := by rw [n2 h1, n3 hb2]
       unfold a77
       rw [e]
       by_cases q : sb = so <;> simp [q]
     simp [th, vK7, hb2]
    ·have e : ¬ (!sa.2) = true := by cases h : sa.2 <;> simp_all
     have h1' : sa.2 = true := by cases h : sa.2 <;> simp_all
     rw [if_neg e, if_neg h1]
     rw [if_neg h1] at hl
     by_cases h2 : sb.2 = false
     ·have e' : (!sb.2) = true := by rw [h2]; rfl
      rw [if_pos e', if_neg e, if_pos h2, if_pos (aa7 (by simp; omega))]
      simp [th, vK7, h1']
     ·have e' : ¬ (!sb.2) = true := by cases h : sb.2 <;> simp_all
      have h2' : sb.2 = true := by cases h : sb.2 <;> simp_all
      rw [if_neg e', if_neg h2]
      rw [if_neg h2] at hl
      by_cases h3 : so.2 = false
      ·have e'' : (!so.2) = true := by rw [h3]; rfl
       rw [if_pos e'', if_pos h3, if_pos (aa7 (by simp; omega))]
       simp [th, Fe7, h1']
      ·have e'' : ¬ (!so.2) = true := by cases h : so.2 <;> simp_all
       have h3' : so.2 = true := by cases h : so.2 <;> simp_all
       rw [if_neg e'', if_neg h3]
       rw [if_neg h3] at hl
       have hFJ : Ml7 so.1 sa.1 sb.1 = mFJ so.1 sa.1 sb.1 := by
        unfold Ml7
        rw [m1 h3', m2 h1', m3 h2', d1 h3', d2 h1', d3 h2']
        simp
       rw [vJ7 (by omega) (by omega) (by omega), hFJ]
       simp only [Option.bind_some]
       simp only at hl
       rw [if_pos (aa7 (by omega)), cl9 _ _ _ (by omega)]
       rfl
  ·simp only [Option.bind_some]
   have e4 : (⟨(bC7 o a b x).1.1.id, ⟨(bC7 o a b x).1.1.shape.kind, (bC7 o a b x).1.1.shape.pts⟩, (bC7 o a b x).1.1.tags⟩ : Feat) = (bC7 o a b x).1.1 := rfl
   rw [e4]
   have hcl : (oC o a b x).length ≤ 13 := by unfold oC; rw [List.length_map]; exact hl
   cases h : (bC7 o a b x).1.2
   ·rw [if_neg (by decide), s37 ho ha hb hid hia hib l _ _ _ (by omega) (by simp; omega), List.flatMap_cons, List.flatMap_cons, of_ h]
    simp
   ·have hw := l17 (hfe h)
    rw [if_pos rfl, hE7 (by omega), Option.bind_some, if_pos (aa7 (by simp; omega)), s37 ho ha hb hid hia hib l _ _ _ (by simp; omega) (by simp; omega), List.flatMap_cons, List.flatMap_cons, of_ h]
    simp
theorem hK7 {s : List Feat} (id : Str) (h : (a67 s id).2 = true) : (a67 s id).1.id = id := by
 unfold a67 at h ⊢
 split
 ·rename_i f e
  simpa using List.find?_some e
 ·rename_i e
  rw [e] at h
  cases h
theorem s47 (wo : wL aZ7 o ≤ 1048576) (wa : wL aZ7 a ≤ 1048576) (wb : wL aZ7 b ≤ 1048576) : qX7 o a b = some (mSJ o a b) := by
 unfold qX7 mSJ
 rw [gz7 wo, gz7 wa, gz7 wb]
 cases ho : aN7 o
 ·rfl
 cases ha : aN7 a
 ·rfl
 cases hb : aN7 b
 ·rfl
 have l1 := bw7 ho; have l2 := bw7 ha; have l3 := bw7 hb
 have hi := iT7 (o := o) (a := a) (b := b)
 have hw := Fj7 ho ha hb
 simp only [Option.bind_some, Bool.not_true, Bool.false_eq_true, if_false, Bool.true_and]
 rw [Bb7 (dm7 ho) (by omega), Option.bind_some, if_pos (aa7 (by omega)), s37 (eG7 ho) (eG7 ha) (eG7 hb) hK7 hK7 hK7 _ _ _ _ (by simp; omega) (by simp; omega), Option.bind_some]
 simp only [List.nil_append]
 rw [show (g27 o a b).flatMap (oF o a b) = sjF o a b from rfl, gz7 (by omega), Option.bind_some]
 cases aN7 (sjF o a b) <;> rfl
end
def rT7 (c : aL7) : Nat := c.id.size + (c.what.size + 0)
theorem LU7 {α β : Type} {f : α → List β} {n : Nat} : ∀ (l : List α), (∀ x, x ∈ l → (f x).length ≤ n) → (l.flatMap f).length ≤ n * l.length
 | [], _ => Nat.zero_le _
 | x :: l, h => by
  have h1 := h x (by simp)
  have h2 := LU7 l fun y hy => h y (by simp [hy])
  rw [List.flatMap_cons, List.length_append, List.length_cons, Nat.mul_add]
  omega
section
variable {o a b : List Feat}
theorem Fk7 (ho : Sh o) (ha : Sh a) (hb : Sh b) (id : Str) : ∀ w, w ∈ (bC7 o a b id).2 → w.size ≤ 11 := by
 have m1 := bk7 (id := id) ho.f
 have m2 := bk7 (id := id) ha.f
 have m3 := bk7 (id := id) hb.f
 unfold bC7
 generalize a67 o id = so at *
 generalize a67 a id = sa at *
 generalize a67 b id = sb at *
 intro w hw
 unfold mJ1 at hw
 split at hw
 ·simp at hw
 ·split at hw
  ·rw [List.mem_singleton.1 hw]; decide
  ·split at hw
   ·rw [List.mem_singleton.1 hw]; decide
   ·split at hw
    ·rw [List.mem_singleton.1 hw]; decide
    ·rename_i h1 h2 h3
     have b1 := gF7 (m1 (by cases h : so.2 <;> simp_all))
     have b2 := gF7 (m2 (by cases h : sa.2 <;> simp_all))
     have b3 := gF7 (m3 (by cases h : sb.2 <;> simp_all))
     unfold mFJ at hw
     split at hw
     ·unfold fjW at hw
      rcases List.mem_append.1 hw with h | h
      ·split at h
       ·cases h
       ·rw [List.mem_singleton.1 h]; decide
      ·obtain ⟨k, hk, h⟩ := List.mem_flatMap.1 h
       have := iS7 b1 b2 b3 k hk
       unfold wOf at h
       split at h
       ·cases h
       ·rw [List.mem_singleton.1 h, ByteArray.size_append]
        have e : tagW.size = 4 := rfl
        omega
     ·rw [List.mem_singleton.1 hw]; decide
theorem QR7 : wL aZ7 (mSJ o a b).1 ≤ 10000 := by
 unfold mSJ
 split
 ·rename_i hc
  simp only [Bool.and_eq_true] at hc
  exact Fj7 hc.1 hc.2.1 hc.2.2.1
 ·exact Nat.zero_le _
theorem Be7 : wL rT7 (mSJ o a b).2.1 ≤ 100000 := by
 unfold mSJ
 split
 ·rename_i hc
  simp only [Bool.and_eq_true] at hc
  have so := eG7 hc.1; have sa := eG7 hc.2.1; have sb := eG7 hc.2.2.1
  have l1 := bw7 hc.1; have l2 := bw7 hc.2.1; have l3 := bw7 hc.2.2.1
  have hi := iT7 (o := o) (a := a) (b := b)
  have hl : (sjC o a b).length ≤ 13 * (g27 o a b).length := LU7 _ fun id _ => by
   unfold oC
   rw [List.length_map]
   exact yR7 so sa sb id
  have hw : ∀ c, c ∈ sjC o a b → rT7 c ≤ 18 := fun c hc => by
   obtain ⟨id, hid, h⟩ := List.mem_flatMap.1 hc
   unfold oC at h
   obtain ⟨w, hw, rfl⟩ := List.mem_map.1 h
   have h1 := Fk7 so sa sb id w hw
   have h2 : id.size ≤ 7 := by
    rcases gH7.1 hid with h | h | h <;> obtain ⟨f, hf, rfl⟩ := List.mem_map.1 h
    ·exact (gF7 (so.f f hf)).id
    ·exact (gF7 (sa.f f hf)).id
    ·exact (gF7 (sb.f f hf)).id
   unfold rT7
   simp only
   omega
  have := l87 (w := rT7) (c := 18) hw
  unfold wL
  simp only
  omega
 ·exact Nat.zero_le _
end
def LV7 (r : aF7) (k : Int) : List Feat := ((r.commits[k.toNat]?).map Commit.sheet).getD []
theorem ex7 {r : aF7} {k : Nat} {x : Commit} (h : r.commits[k]? = some x) : LV7 r (k : Int) = x.sheet := by
 unfold LV7
 rw [Int.toNat_natCast, h]
 rfl
noncomputable def aI7 (r : aF7) (a b : Int) : List Feat × List aL7 × Bool :=
 if (inR r a && inR r b) = true then mSJ (LV7 r (bK7 r a b)) (LV7 r a) (LV7 r b) else ([], [], false)
theorem rU7 {r : aF7} {a b : Int} (hw : cj7 r ≤ 1048576) : nE7 r a b = some (aI7 r a b) := by
 unfold nE7 aI7
 rw [nO7 hw, Option.bind_some]
 by_cases h : (inR r a && inR r b) = true
 ·rw [if_pos h]
  simp only [Bool.and_eq_true] at h
  obtain ⟨hr, x, rfl, hx⟩ := hi7 h.1
  obtain ⟨_, y, rfl, hy⟩ := hi7 h.2
  obtain ⟨k, k1, k2, _, _⟩ := ew7 hr hx hy
  obtain ⟨c1, h1⟩ := f87 hx
  obtain ⟨c2, h2⟩ := f87 hy
  obtain ⟨c3, h3⟩ := f87 k2
  rw [k1, if_neg (by simp), ao7, h3, Option.bind_some, ao7, h1, Option.bind_some, ao7, h2, Option.bind_some, s47 (jq7 hw h3) (jq7 hw h1) (jq7 hw h2), ex7 h1, ex7 h2, ex7 h3]
  rfl
 ·rw [iM7 h, if_neg h]
  rfl
theorem yU7 {r : aF7} {a b : Int} (hw : cj7 r ≤ 1048576) : qB7 r a b = some (aI7 r a b) := by
 unfold qB7 aI7
 rw [nN7 hw, Option.bind_some]
 by_cases h : (inR r a && inR r b) = true
 ·rw [if_pos h]
  simp only [Bool.and_eq_true] at h
  obtain ⟨hr, x, rfl, hx⟩ := hi7 h.1
  obtain ⟨_, y, rfl, hy⟩ := hi7 h.2
  obtain ⟨k, k1, k2, _, _⟩ := ew7 hr hx hy
  obtain ⟨c1, h1⟩ := f87 hx
  obtain ⟨c2, h2⟩ := f87 hy
  obtain ⟨c3, h3⟩ := f87 k2
  rw [k1, if_neg (by simp), ao7, h3, Option.bind_some, ao7, h1, Option.bind_some, ao7, h2, Option.bind_some, s27 (jq7 hw h3) (jq7 hw h1) (jq7 hw h2), ex7 h1, ex7 h2, ex7 h3]
  rfl
 ·rw [iM7 h, if_neg h]
  rfl
theorem Bf7 {r : aF7} {a b : Int} : wL rT7 (aI7 r a b).2.1 ≤ 100000 := by
 unfold aI7
 split
 ·exact Be7
 ·exact Nat.zero_le _
theorem Qw7 {r : aF7} {a b : Int} : wL aZ7 (aI7 r a b).1 ≤ 10000 := by
 unfold aI7
 split
 ·exact QR7
 ·exact Nat.zero_le _
theorem jw7 {α : Type} [DecidableEq α] (o a b : α) : (a77 o a b).2 = (a77 o b a).2 ∧ ((a77 o a b).2 = true → a77 o a b = a77 o b a) := by
 unfold a77
 by_cases h1 : a = o
 ·by_cases h2 : b = o
  ·rw [if_pos h1, if_pos h2, h1, h2]
   exact ⟨rfl, fun _ => rfl⟩
  ·rw [if_pos h1, if_neg h2, if_pos h1]
   exact ⟨rfl, fun _ => rfl⟩
 ·by_cases h2 : b = o
  ·rw [if_neg h1, if_pos h2, if_pos h2]
   exact ⟨rfl, fun _ => rfl⟩
  ·by_cases h3 : a = b
   ·rw [if_neg h1, if_neg h2, if_pos h3, if_neg h2, if_neg h1, if_pos h3.symm, h3]
    exact ⟨rfl, fun _ => rfl⟩
   ·rw [if_neg h1, if_neg h2, if_neg h3, if_neg h2, if_neg h1, if_neg (fun e => h3 e.symm)]
    exact ⟨rfl, fun h => by cases h⟩
theorem ma7 (o a b : Val) : (nY7 o a b).2 = (nY7 o b a).2 ∧ ((nY7 o a b).2 = true → nY7 o a b = nY7 o b a) ∧ (nY7 o a b).1.has = (nY7 o b a).1.has := by
 obtain ⟨h1, h2⟩ := jw7 o a b
 unfold nY7
 by_cases h : (a77 o a b).2 = true
 ·have h' := h1 ▸ h
  rw [if_pos h, if_pos h', h2 h]
  exact ⟨rfl, fun _ => rfl, rfl⟩
 ·have h' : ¬ (a77 o b a).2 = true := h1 ▸ h
  rw [if_neg h, if_neg h']
  refine ⟨rfl, (fun h => by cases h), ?_⟩
  cases ha : a.has <;> cases hb : b.has <;> simp [ha, hb]
theorem j37 (o a b : aD7) : (a37 o a b).2 = (a37 o b a).2 ∧ ((a37 o a b).2 = true → a37 o a b = a37 o b a) := by
 obtain ⟨h1, h2⟩ := jw7 o a b
 unfold a37
 by_cases h : (a77 o a b).2 = true
 ·have h' := h1 ▸ h
  rw [if_pos h, if_pos h', h2 h]
  exact ⟨rfl, fun _ => rfl⟩
 ·have h' : ¬ (a77 o b a).2 = true := h1 ▸ h
  rw [if_neg h, if_neg h', sY7 o.pts b.pts a.pts]
  by_cases k : a.kind = b.kind ∧ a.kind = o.kind
  ·rw [if_pos k, if_pos ⟨k.1.symm, k.1 ▸ k.2⟩, k.1]
   cases gE7 o.pts a.pts b.pts with
   | none => exact ⟨rfl, fun h => by cases h⟩
   | some p =>
    simp only
    split
    ·exact ⟨rfl, fun _ => rfl⟩
    ·exact ⟨rfl, fun h => by cases h⟩
  ·rw [if_neg k, if_neg (fun k' : b.kind = a.kind ∧ b.kind = o.kind => k ⟨k'.1.symm, k'.1 ▸ k'.2⟩)]
   exact ⟨rfl, fun h => by cases h⟩
theorem o77 {o a b : aD7} (ha : co7 a = true) (hb : co7 b = true) : co7 (a37 o a b).1 = true := by
 unfold a37
 split
 ·rcases gG7 (o := o) (a := a) (b := b) with e | e <;> rw [e] <;> assumption
 ·split
  ·split
   ·split
    ·assumption
    ·exact ha
   ·exact ha
  ·exact ha
theorem jx7 (o a b : List Tag) : eX7 o a b = eX7 o b a := o37 kD7 kD7 fun x => by
 rw [iQ7, iQ7]
 constructor
 ·rintro (h | h | h)
  ·exact .inl h
  ·exact .inr (.inr h)
  ·exact .inr (.inl h)
 ·rintro (h | h | h)
  ·exact .inl h
  ·exact .inr (.inr h)
  ·exact .inr (.inl h)
theorem rV7 {α β : Type} {f g : α → List β} : ∀ {l : List α}, (∀ x, x ∈ l → (f x).length = (g x).length) → (l.flatMap f).length = (l.flatMap g).length
 | [], _ => rfl
 | x :: l, h => by
  rw [List.flatMap_cons, List.flatMap_cons, List.length_append, List.length_append, h x (by simp), rV7 (l := l) fun y hy => h y (by simp [hy])]
theorem yV7 {α β : Type} {f g : α → List β} : ∀ {l : List α}, (∀ x, x ∈ l → f x = g x) → l.flatMap f = l.flatMap g
 | [], _ => rfl
 | x :: l, h => by
  rw [List.flatMap_cons, List.flatMap_cons, h x (by simp), yV7 (l := l) fun y hy => h y (by simp [hy])]
theorem s57 {β : Type} {key : β → Str} {f : Str → List β} (h1 : ∀ k, (f k).length ≤ 1) (hk : ∀ k x, x ∈ f k → key x = k) : ∀ {l : List Str}, SPw l → (l.flatMap f).Pairwise fun x y => slt (key x) (key y) = true
 | [], _ => List.Pairwise.nil
 | k :: l, h => by
  unfold SPw at h
  rw [List.pairwise_cons] at h
  rw [List.flatMap_cons, List.pairwise_append]
  refine ⟨?_, s57 h1 hk h.2, fun x hx y hy => ?_⟩
  ·match hf : f k, h1 k with
   | [], _ => exact List.Pairwise.nil
   | [x], _ => exact List.pairwise_singleton _ _
   | x :: y :: r, hl => simp [hf] at hl
  ·obtain ⟨j, hj, hy⟩ := List.mem_flatMap.1 hy
   rw [hk k x hx, hk j y hy]
   exact h.1 j hj
theorem yW7 {α : Type} {key : α → Str} {s : List α} (h : s.Pairwise fun x y => slt (key x) (key y) = true) {k : Nat} {x : α} (hx : s[k]? = some x) : (decide (k = 0) || ig7 key s x k) = true := by
 cases k with
 | zero => rfl
 | succ k =>
  have hk := gy7 hx
  obtain ⟨y, hy⟩ := f87 (xs := s) (i := k) (by omega)
  unfold ig7
  rw [Nat.add_sub_cancel, hy]
  have h2 := List.pairwise_iff_getElem.1 h k (k + 1) (by omega) hk (by omega)
  obtain ⟨_, e1⟩ := List.getElem?_eq_some_iff.1 hy
  obtain ⟨_, e2⟩ := List.getElem?_eq_some_iff.1 hx
  rw [e1, e2] at h2
  simp [h2]
theorem Bg7 {s : List Feat} (hf : ∀ f, f ∈ s → bj7 f = true) (hp : Pw s) (hl : s.length ≤ 8) : aN7 s = true := by
 unfold aN7
 rw [Bool.and_eq_true]
 refine ⟨jl7 fun j x hx => ?_, decide_eq_true hl⟩
 rw [Nat.zero_add, hf x (List.mem_of_getElem? hx), yW7 (key := Feat.id) hp hx]
 rfl
theorem Fl7 {s : List Tag} (hf : ∀ t, t ∈ s → by7 t.key = true ∧ by7 t.val = true) (hp : s.Pairwise fun x y => slt x.key y.key = true) : j77 s = true := by
 unfold j77
 refine jl7 fun j x hx => ?_
 have := hf x (List.mem_of_getElem? hx)
 rw [Nat.zero_add, this.1, this.2, yW7 (key := Tag.key) hp hx]
 rfl
theorem uK7 {f : Feat} (h : bj7 f = true) : ∀ t, t ∈ f.tags → by7 t.key = true ∧ by7 t.val = true := fun t ht => by
 unfold bj7 j77 at h
 simp only [Bool.and_eq_true, decide_eq_true_eq] at h
 obtain ⟨j, hj⟩ := Fz7 h.2.2.1 ht
 simp only [Bool.and_eq_true] at hj
 exact ⟨hj.1, hj.2.1⟩
theorem yX7 {ts : List Tag} {k : Str} (h : (b07 ts k).has = true) : ∃ t, t ∈ ts ∧ t.key = k ∧ (b07 ts k).val = t.val := by
 unfold b07 at h ⊢
 split
 ·rename_i t e
  exact ⟨t, List.mem_of_find?_eq_some e, by simpa using List.find?_some e, rfl⟩
 ·rename_i e
  rw [e] at h
  cases h
section
variable {o a b : Feat}
theorem Fm7 (ha : bj7 a = true) (hb : bj7 b = true) : j77 (fjF o a b).tags = true := by
 have hk : ∀ k x, x ∈ tOf o a b k → x.key = k := fun k x hx => by
  unfold tOf at hx
  split at hx
  ·rw [List.mem_singleton.1 hx]
  ·cases hx
 refine Fl7 (fun t ht => ?_) (s57 (fun k => yM7 k) hk kD7)
 obtain ⟨k, _, h⟩ := List.mem_flatMap.1 ht
 unfold tOf mT at h
 split at h
 ·rename_i hs
  rw [List.mem_singleton.1 h]
  rcases uF7 (o := b07 o.tags k) (a := b07 a.tags k) (b := b07 b.tags k) with e | e
  ·rw [e] at hs ⊢
   obtain ⟨t, h1, h2, h3⟩ := yX7 hs
   have := uK7 ha t h1
   simp only
   rw [h3, ← h2]
   exact this
  ·rw [e] at hs ⊢
   obtain ⟨t, h1, h2, h3⟩ := yX7 hs
   have := uK7 hb t h1
   simp only
   rw [h3, ← h2]
   exact this
 ·cases h
theorem yY7 (ha : bj7 a = true) (hb : bj7 b = true) : bj7 (fjF o a b) = decide ((fjF o a b).tags.length ≤ 4) := by
 have h1 := Fm7 (o := o) ha hb
 have h2 : co7 (fjF o a b).shape = true := o77 (gF7 ha).shape (gF7 hb).shape
 have h3 : by7 (fjF o a b).id = true := by
  unfold bj7 at ha
  simp only [Bool.and_eq_true] at ha
  exact ha.1
 unfold bj7
 rw [h1, h2, h3, Bool.true_and, Bool.true_and, Bool.true_and]
theorem LW7 : (fjF o a b).tags.length = (fjF o b a).tags.length := by
 unfold fjF
 simp only
 rw [jx7 o.tags b.tags a.tags]
 refine rV7 fun k _ => ?_
 have := (ma7 (b07 o.tags k) (b07 a.tags k) (b07 b.tags k)).2.2
 unfold tOf mT
 rw [this]
 split <;> rfl
theorem uL7 : (fjW o a b).length = (fjW o b a).length := by
 have h1 := (j37 o.shape a.shape b.shape).1
 have h2 : ((eX7 o.tags a.tags b.tags).flatMap (wOf o a b)).length = ((eX7 o.tags a.tags b.tags).flatMap (wOf o b a)).length := rV7 fun k _ => by
  have := (ma7 (b07 o.tags k) (b07 a.tags k) (b07 b.tags k)).1
  unfold wOf mT
  rw [this]
 unfold fjW
 rw [List.length_append, List.length_append, h1, h2, jx7 o.tags b.tags a.tags]
theorem Bh7 (hid : a.id = b.id) (h : fjW o a b = []) : fjF o a b = fjF o b a := by
 unfold fjW at h
 obtain ⟨h1, h2⟩ := List.append_eq_nil_iff.1 h
 have h3 : (a37 o.shape a.shape b.shape).2 = true := by
  split at h1
  ·assumption
  ·cases h1
 unfold fjF
 rw [(j37 o.shape a.shape b.shape).2 h3, hid, jx7 o.tags b.tags a.tags]
 congr 1
 refine yV7 fun k hk => ?_
 have h4 := List.flatMap_eq_nil_iff.1 h2 k hk
 have h5 : (nY7 (b07 o.tags k) (b07 a.tags k) (b07 b.tags k)).2 = true := by
  unfold wOf mT at h4
  split at h4
  ·assumption
  ·cases h4
 unfold tOf mT
 rw [(ma7 (b07 o.tags k) (b07 a.tags k) (b07 b.tags k)).2.1 h5]
theorem Bi7 (ha : bj7 a = true) (hb : bj7 b = true) (hid : a.id = b.id) : (mFJ o a b).2.length = (mFJ o b a).2.length ∧ ((mFJ o a b).2 = [] → mFJ o a b = mFJ o b a) := by
 unfold mFJ
 rw [yY7 ha hb, yY7 hb ha, LW7]
 split
 ·refine ⟨uL7, fun h => ?_⟩
  have h2 := uL7 (o := o) (a := a) (b := b)
  have h : fjW o a b = [] := h
  rw [h] at h2
  rw [Bh7 hid h, h, List.eq_nil_of_length_eq_zero h2.symm]
 ·exact ⟨rfl, fun h => by cases h⟩
end
section
variable {o a b : List Feat}
theorem s67 (sa : Sh a) (sb : Sh b) (id : Str) : (bC7 o a b id).1.2 = (bC7 o b a id).1.2 ∧ (bC7 o a b id).2.length = (bC7 o b a id).2.length ∧ ((bC7 o a b id).2 = [] → bC7 o a b id = bC7 o b a id) := by
 have n2 := dq7 (s := a) (id := id)
 have n3 := dq7 (s := b) (id := id)
 have m2 := bk7 (id := id) sa.f
 have m3 := bk7 (id := id) sb.f
 have d2 := hK7 (s := a) id
 have d3 := hK7 (s := b) id
 unfold bC7
 generalize a67 o id = so at *
 generalize a67 a id = sa at *
 generalize a67 b id = sb at *
 obtain ⟨h1, h2⟩ := jw7 so sa sb
 unfold mJ1
 by_cases ht : (a77 so sa sb).2 = true
 ·have ht' := h1 ▸ ht
  rw [if_pos ht, if_pos ht', h2 ht]
  exact ⟨rfl, rfl, fun _ => rfl⟩
 ·have ht' : ¬ (a77 so sb sa).2 = true := h1 ▸ ht
  rw [if_neg ht, if_neg ht']
  have hno : ¬ (sa.2 = false ∧ sb.2 = false) := fun ⟨ha, hb⟩ => by
   apply ht
   have e : sa = sb := by rw [n2 ha, n3 hb]
   unfold a77
   rw [e]
   by_cases q : sb = so <;> simp [q]
  by_cases ha : sa.2 = false
  ·have hb : ¬ sb.2 = false := fun hb => hno ⟨ha, hb⟩
   rw [if_pos ha, if_neg hb, if_pos ha]
   exact ⟨rfl, rfl, fun h => by cases h⟩
  ·by_cases hb : sb.2 = false
   ·rw [if_neg ha, if_pos hb, if_pos hb]
    exact ⟨rfl, rfl, fun h => by cases h⟩
   ·rw [if_neg ha, if_neg hb, if_neg hb, if_neg ha]
    by_cases ho : so.2 = false
    ·rw [if_pos ho, if_pos ho]
     exact ⟨rfl, rfl, fun h => by cases h⟩
    ·rw [if_neg ho, if_neg ho]
     have ha : sa.2 = true := by simpa using ha
     have hb : sb.2 = true := by simpa using hb
     have := Bi7 (o := so.1) (m2 ha) (m3 hb) (by rw [d2 ha, d3 hb])
     exact ⟨rfl, this.1, fun h => by simp only at h ⊢; rw [this.2 h]⟩
theorem jy7 (ho : Pw o) : g27 o a b = g27 o b a := o37 (kE7 ho) (kE7 ho) fun x => by
 rw [gH7, gH7]
 constructor
 ·rintro (h | h | h)
  ·exact .inl h
  ·exact .inr (.inr h)
  ·exact .inr (.inl h)
 ·rintro (h | h | h)
  ·exact .inl h
  ·exact .inr (.inr h)
  ·exact .inr (.inl h)
theorem PM7 (id : Str) (h : (bC7 o a b id).1.2 = true) : (bC7 o a b id).1.1.id = id := by
 have n2 := dq7 (s := a) (id := id)
 have n3 := dq7 (s := b) (id := id)
 have d2 := hK7 (s := a) id
 have d3 := hK7 (s := b) id
 unfold bC7 at h ⊢
 generalize a67 o id = so at *
 generalize a67 a id = sa at *
 generalize a67 b id = sb at *
 unfold mJ1 at h ⊢
 split
 ·rename_i ht
  rw [if_pos ht] at h
  rcases gG7 (o := so) (a := sa) (b := sb) with e | e
  ·rw [e] at h ⊢; exact d2 h
  ·rw [e] at h ⊢; exact d3 h
 ·rename_i ht
  split
  ·rename_i ha
   apply d3
   cases hb2 : sb.2 with
   | true => rfl
   | false =>
    exfalso
    apply ht
    have e : sa = sb := by rw [n2 ha, n3 hb2]
    unfold a77
    rw [e]
    by_cases q : sb = so <;> simp [q]
  ·rename_i ha
   have ha : sa.2 = true := by simpa using ha
   split
   ·exact d2 ha
   ·split
    ·exact d2 ha
    ·unfold mFJ
     split
     ·exact d2 ha
     ·exact d2 ha
theorem LX7 (k : Str) (x : Feat) (hx : x ∈ oF o a b k) : x.id = k := by
 unfold oF at hx
 split at hx
 ·rename_i h
  rw [List.mem_singleton.1 hx]
  exact PM7 k h
 ·cases hx
theorem yZ7 (ho : Pw o) : Pw (sjF o a b) := s57 (key := Feat.id) (fun k => uI7 k) LX7 (kE7 ho)
theorem rW7 (ho : aN7 o = true) (ha : aN7 a = true) (hb : aN7 b = true) : aN7 (sjF o a b) = decide ((sjF o a b).length ≤ 8) := by
 by_cases h : (sjF o a b).length ≤ 8
 ·rw [Bg7 (uJ7 (eG7 ho) (eG7 ha) (eG7 hb)) (yZ7 (dm7 ho)) h, decide_eq_true h]
 ·rw [decide_eq_false h]
  unfold aN7
  rw [decide_eq_false h, Bool.and_false]
theorem Bj7 (ho : aN7 o = true) (ha : aN7 a = true) (hb : aN7 b = true) : (sjF o a b).length = (sjF o b a).length := by
 unfold sjF
 rw [jy7 (dm7 ho) (a := b)]
 refine rV7 fun k _ => ?_
 have := (s67 (o := o) (eG7 ha) (eG7 hb) k).1
 unfold oF
 rw [this]
 split <;> rfl
theorem Bk7 (ho : aN7 o = true) (ha : aN7 a = true) (hb : aN7 b = true) : (sjC o a b).length = (sjC o b a).length := by
 unfold sjC
 rw [jy7 (dm7 ho) (a := b)]
 refine rV7 fun k _ => ?_
 unfold oC
 rw [List.length_map, List.length_map]
 exact (s67 (eG7 ha) (eG7 hb) k).2.1
theorem Fn7 : (mSJ o a b).2.2 = (mSJ o b a).2.2 ∧ (mSJ o a b).2.1.length = (mSJ o b a).2.1.length ∧ ((mSJ o a b).2.1 = [] → (mSJ o a b).1 = (mSJ o b a).1) := by
 unfold mSJ
 by_cases ho : aN7 o = true
 ·by_cases ha : aN7 a = true
  ·by_cases hb : aN7 b = true
   ·rw [rW7 ho ha hb, rW7 ho hb ha, Bj7 ho ha hb, ho, ha, hb]
    split
    ·refine ⟨rfl, Bk7 ho ha hb, fun h => ?_⟩
     simp only at h ⊢
     unfold sjF
     rw [jy7 (dm7 ho) (a := b)]
     refine yV7 fun k hk => ?_
     have h1 := List.flatMap_eq_nil_iff.1 h k hk
     unfold oC at h1
     have h2 := (s67 (o := o) (eG7 ha) (eG7 hb) k).2.2 (List.map_eq_nil_iff.1 h1)
     unfold oF
     rw [h2]
    ·exact ⟨rfl, rfl, fun _ => rfl⟩
   ·simp [hb]
  ·simp [ha]
 ·simp [ho]
theorem o87 (id : Str) : bC7 o o b id = (a67 b id, []) := by
 unfold bC7 mJ1 a77
 simp
theorem LY7 (ho : aN7 o = true) (hb : aN7 b = true) : mSJ o o b = (b, [], true) := by
 have hc : sjC o o b = [] := by
  unfold sjC
  rw [List.flatMap_eq_nil_iff]
  intro k _
  unfold oC
  rw [o87]
  rfl
 have hf : sjF o o b = b := by
  refine LR7 (yZ7 (dm7 ho)) (dm7 hb) fun i => ?_
  rcases js7 b i with ⟨h1, h2⟩ | ⟨f, hf, he, h1⟩
  ·rw [h1]
   refine yH7 fun f hf e => ?_
   obtain ⟨k, _, h⟩ := List.mem_flatMap.1 hf
   have hk := LX7 k f h
   rw [← hk, e] at h
   unfold oF at h
   rw [o87, h1] at h
   cases h
  ·rw [h1]
   refine E97 (yZ7 (dm7 ho)) ?_ he
   refine List.mem_flatMap.2 ⟨i, gH7.2 (.inr (.inr (List.mem_map.2 ⟨f, hf, he⟩))), ?_⟩
   unfold oF
   rw [o87, h1]
   exact List.mem_singleton.2 rfl
 unfold mSJ
 rw [hf, hc, ho, hb]
 rfl
end
theorem LZ7 (x y : aL7) : ((x.id == y.id) && ((x.what == y.what) && true)) = decide (x = y) := by
 obtain ⟨a, b⟩ := x; obtain ⟨c, d⟩ := y
 simp only [Mb7]
 by_cases h1 : a = c <;> by_cases h2 : b = d <;> simp [h1, h2]
theorem s77 {a b : List aL7} (h : a.length ≤ 1048576) : ri7 a b = some (decide (a = b)) := by
 have h1 : ua7 a b = some (decide (a = b)) := dx7 (gl := fK7) (ok := fun _ => True) (fun _ _ => rfl) (fun a x l k y _ hy => by
  simp only [fK7, ao7, hy, Option.bind_some, LZ7]
  by_cases e : x = y <;> simp [e]) (fun _ _ => rfl) h (fun _ _ => trivial)
 unfold ri7
 rw [h1]
 rfl
theorem vL7 (code : List UInt8) : ∃ r a b, rh7 code = some (r, a, b) ∧ bR r := by
 obtain ⟨r, a, b, h, hr⟩ := yv7 code
 unfold rh7
 rw [h]
 exact ⟨r, a, b, rfl, hr⟩
theorem PN7 {r : aF7} {a b : Int} (h : (aI7 r a b).2.2 = false) : aI7 r a b = ([], [], false) := by
 unfold aI7 at h ⊢
 split
 ·rename_i h1
  rw [if_pos h1] at h
  unfold mSJ at h ⊢
  split
  ·rename_i h2
   rw [if_pos h2] at h
   cases h
  ·rfl
 ·rfl
theorem Fo7 {r : aF7} {a b : Int} : (aI7 r a b).2.2 = (aI7 r b a).2.2 ∧ (aI7 r a b).2.1.length = (aI7 r b a).2.1.length ∧ ((aI7 r a b).2.1 = [] → (aI7 r a b).1 = (aI7 r b a).1) := by
 unfold aI7
 rw [mF7 (a := b) (b := a), Bool.and_comm (inR r b) (inR r a)]
 split
 ·exact Fn7
 ·exact ⟨rfl, rfl, fun _ => rfl⟩
theorem L07 {r : aF7} {a b : Int} : (aI7 r a b).2.1.length ≤ 100000 := by
 have := Bf7 (r := r) (a := a) (b := b)
 unfold wL at this
 omega
theorem Fp7 {r : aF7} {a b : Nat} (hr : cT7 r = true) (ha : a < r.commits.length) (hb : b < r.commits.length) (h : Anc r.commits b a) : bK7 r a b = (a : Int) := by
 obtain ⟨k, k1, k2, k3, k4⟩ := ew7 hr ha hb
 have h6 := k3.1.le (dT7 hr)
 rcases Nat.lt_or_ge k a with h7 | h7
 ·exact absurd ⟨.refl a, h⟩ (k4 a h7)
 ·rw [k1]
  omega
open Classical in
theorem o97 (code : List UInt8) : ub7 code = some true := by
 unfold ub7
 by_cases hs : (code.length : Int) > 1048576
 ·rw [if_pos (by simpa using hs)]
 rw [if_neg (by simpa using hs)]
 obtain ⟨r, a, b, h, hb⟩ := vL7 code
 have hw : cj7 r ≤ 1048576 := by have := PK7 hb; omega
 rw [h, Option.bind_some]
 simp only
 have w1 := Qw7 (r := r) (a := a) (b := b)
 have w2 := Qw7 (r := r) (a := b) (b := a)
 have l1 := L07 (r := r) (a := a) (b := b)
 rw [rU7 hw, Option.bind_some, yU7 hw, Option.bind_some, if_neg (by simp), fQ7 (by omega), Option.bind_some, if_neg (by simp), s77 (by omega), Option.bind_some, if_neg (by simp), nO7 hw, Option.bind_some, nN7 hw, Option.bind_some, if_neg (by simp)]
 by_cases hok : (aI7 r a b).2.2 = true
 ·rw [if_neg (by simp [hok])]
  have hin : (inR r a && inR r b) = true := by
   by_cases hin : (inR r a && inR r b) = true
   ·exact hin
   ·unfold aI7 at hok
    rw [if_neg hin] at hok
    cases hok
  obtain ⟨q1, q2, q3⟩ := Fo7 (r := r) (a := a) (b := b)
  rw [rU7 hw, Option.bind_some, Option.bind_some]
  simp only
  rw [if_neg (by rw [← q1, hok]; decide), if_neg (by rw [q2]; simp)]
  simp only [Bool.and_eq_true] at hin
  have hin' : (inR r a && inR r b) = true := by rw [hin.1, hin.2]; rfl
  obtain ⟨hr, x, rfl, hx⟩ := hi7 hin.1
  obtain ⟨_, y, rfl, hy⟩ := hi7 hin.2
  have e1 : (if (((aI7 r x y).2.1.length : Int) == 0) = true then ((hb7 (aI7 r y x).1 (aI7 r x y).1).bind fun x50 => if (!x50) = true then (some (.inl (false))) else (some (.inr ()))) else (some (.inr ())) : Option (Bool ⊕ Unit)) = some (.inr ()) := by
   split
   ·rename_i h0
    have h0 : (aI7 r x y).2.1 = [] := by
     have := of_decide_eq_true h0
     exact List.eq_nil_of_length_eq_zero (by omega)
    rw [fQ7 (by omega), Option.bind_some, q3 h0, if_neg (by simp)]
   ·rfl
  rw [e1, Option.bind_some]
  simp only
  rw [hH7 hw hr hx hy, Option.bind_some]
  obtain ⟨k, k1, k2, k3, k4⟩ := ew7 hr hx hy
  have e2 : (if decide (Anc r.commits y x) = true then (if (decide (((aI7 r x y).2.1.length : Int) > 0)) = true then (some (.inl (false))) else ((idx r.commits (y : Int)).bind fun x66 => (hb7 (aI7 r x y).1 x66.sheet).bind fun x68 => if (!x68) = true then (some (.inl (false))) else (some (.inr ())))) else (some (.inr ())) : Option (Bool ⊕ Unit)) = some (.inr ()) := by
   split
   ·rename_i ha
    have ha : Anc r.commits y x := by simpa using ha
    obtain ⟨c1, h1⟩ := f87 hx
    obtain ⟨c2, h2⟩ := f87 hy
    have m1 := (eV7 (ev7 hr) h1).2.1
    have m2 := (eV7 (ev7 hr) h2).2.1
    have e : aI7 r x y = (c2.sheet, [], true) := by
     unfold aI7
     rw [if_pos hin', Fp7 hr hx hy ha, ex7 h1, ex7 h2, LY7 m1 m2]
    rw [if_neg (by rw [e]; simp), ao7, h2, Option.bind_some, fQ7 (by omega), e, Option.bind_some, if_neg (by simp)]
   ·rfl
  rw [e2, Option.bind_some]
  simp only
  rw [k1, Option.bind_some, if_pos (by simp), hH7 hw hr k2 hx, Option.bind_some, if_pos (by simpa using k3.1), hH7 hw hr k2 hy, Option.bind_some]
  simp [k3.2]
 ·have hok : (aI7 r a b).2.2 = false := by simpa using hok
  rw [PN7 hok]
  rfl
structure At (r : aF7) (n : Str) (i : Nat) (z : Head) (a : Nat) : Prop where
 repo : cT7 r = true
 hd : bT7 r.heads n = (i : Int)
 get : r.heads[i]? = some z
 name : z.name = n
 at_ : z.at_ = (a : Int)
 lt : a < r.commits.length
structure Fused (r : aF7) (t : Str) (i : Nat) (z : Head) (a b : Nat) (q : aF7) (m : Nat) : Prop where
 heads : q.heads = r.heads.set i ⟨z.name, (m : Int)⟩
 comm : (q.commits = r.commits ∧ m < r.commits.length) ∨ (q.commits = r.commits ++ [⟨[(a : Int), (b : Int)], (aI7 r a b).1, t⟩] ∧ m = r.commits.length ∧ r.commits.length < 14)
 get : q.commits[m]? = some ⟨[(a : Int), (b : Int)], (aI7 r a b).1, t⟩
 repo' : cT7 q = true
 ok : (aI7 r a b).2.2 = true
 none : (aI7 r a b).2.1 = []
 w : cj7 q ≤ cj7 r + 20001
section
variable {r : aF7} {n f t : Str} {i j a b : Nat} {z y : Head}
end
section
variable {r q : aF7} {n f t : Str} {i j a b m : Nat} {z y : Head}
theorem Fused.anc (h : Fused r t i z a b q m) (hr : cT7 r = true) (ha : a < r.commits.length) (hb : b < r.commits.length) {u : Nat} : Anc q.commits m u ↔ u = m ∨ Anc r.commits a u ∨ Anc r.commits b u := by
 have hp : ∀ {c u : Nat}, c < r.commits.length → (Anc q.commits c u ↔ Anc r.commits c u) := fun {c u} hc => by
  rcases h.comm with ⟨e, _⟩ | ⟨e, _, _⟩
  ·rw [e]
  ·rw [e]
   exact yA7 (dT7 hr) hc
 constructor
 ·intro h1
  rcases h1.head' with h2 | ⟨x, v, h2, h3, h4⟩
  ·exact .inl h2.symm
  ·rw [h.get] at h2
   cases h2
   simp only [List.mem_cons, List.not_mem_nil, or_false] at h3
   rcases h3 with rfl | rfl
   ·exact .inr (.inl ((hp ha).1 (by simpa using h4)))
   ·exact .inr (.inr ((hp hb).1 (by simpa using h4)))
 ·have up1 : ∀ v : Nat, (v : Int) ∈ [(a : Int), (b : Int)] → Anc q.commits m v := fun v hv => by
   have h1 : Anc q.commits m ((v : Int).toNat) := .up (.refl m) h.get hv
   simpa using h1
  rintro (rfl | h1 | h1)
  ·exact .refl _
  ·exact (up1 a (by simp)).trans ((hp ha).2 h1)
  ·exact (up1 b (by simp)).trans ((hp hb).2 h1)
theorem Fused.take (h : Fused r t i z a b q m) : q.commits.take r.commits.length = r.commits := by
 rcases h.comm with ⟨e, _⟩ | ⟨e, _, _⟩
 ·rw [e, List.take_length]
 ·rw [e, List.take_left]
theorem Fused.len (h : Fused r t i z a b q m) : r.commits.length ≤ q.commits.length ∧ q.commits.length ≤ r.commits.length + 1 ∧ m < q.commits.length := by
 refine ⟨?_, ?_, gy7 h.get⟩
 ·rcases h.comm with ⟨e, _⟩ | ⟨e, _, _⟩ <;> rw [e] <;> simp
 ·rcases h.comm with ⟨e, _⟩ | ⟨e, _, _⟩ <;> rw [e] <;> simp
end
section
variable {o a b : List Feat}
end
section
variable {r q : aF7} {n t : Str} {s : List Feat} {i k : Nat} {z : Head} {x : Commit}
theorem Added.at (h : Added r n t s i z x q k) : At q n i ⟨z.name, (k : Int)⟩ k := ⟨h.repo', h.head.1, h.head.2, h.name, rfl, gy7 h.get⟩
theorem Added.len (h : Added r n t s i z x q k) : r.commits.length ≤ q.commits.length ∧ q.commits.length ≤ r.commits.length + 1 := by
 rcases h.comm with ⟨e, _⟩ | ⟨e, _, _⟩ <;> rw [e] <;> simp
theorem Added.anc (h : Added r n t s i z x q k) {c u : Nat} (hc : c < r.commits.length) : Anc q.commits c u ↔ Anc r.commits c u := by
 rcases h.comm with ⟨e, _⟩ | ⟨e, _, _⟩
 ·rw [e]
 ·rw [e]
  exact yA7 (dT7 h.repo) hc
theorem Added.up (h : Added r n t s i z x q k) {a : Nat} (ha : z.at_ = (a : Int)) {u : Nat} (hal : a < r.commits.length) : Anc q.commits k u ↔ k = u ∨ Anc r.commits a u := by
 rw [E77 h.get (by simp only; rw [ha]), h.anc hal]
end
end Go.Proofs.AM
