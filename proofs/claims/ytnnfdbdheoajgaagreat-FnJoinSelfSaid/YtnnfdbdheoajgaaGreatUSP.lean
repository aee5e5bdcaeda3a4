/- Lemmas of the proof (USP), on an abstract machine. Conditions: none. -/
import Derived.Test.YtnnfdbdheoajgaaGreatUSD
import Derived.Test.YtnnfdbdheoajgaaGreatM2
import Derived.Test.YtnnfdbdheoajgaaGreatHT
import Derived.Test.YtnnfdbdheoajgaaGreatHN
import Derived.Test.YtnnfdbdheoajgaaGreatHV
set_option linter.unusedVariables false
set_option linter.unusedSimpArgs false
set_option maxRecDepth 10000
namespace Go.Proofs.AM
theorem eB7 {s : Str} (h : s.size ≤ 1048576) : f77 s = some (bb7 s) := by
 unfold f77 bb7
 rw [if_pos (aa7 h), iq7 (gl := fm7) (p := fun (b : UInt8) _ => decide (97 ≤ b.toNat) && decide (b.toNat ≤ 122)) (xs := s.data.toList) (fun _ => rfl) (fun x l k _ => ?_) s.data.toList 0 rfl]
 ·have e1 : ((s.size : Int) ≥ 1) ↔ 1 ≤ s.size := by omega
  have e2 : ((s.size : Int) ≤ 6) ↔ s.size ≤ 6 := by omega
  cases a27 (fun (b : UInt8) _ => decide (97 ≤ b.toNat) && decide (b.toNat ≤ 122)) s.data.toList 0
  ·rfl
  ·by_cases h1 : 1 ≤ s.size <;> simp [e1, e2, h1]
 ·have e1 : ((x.toNat : Int) < 97) ↔ ¬ 97 ≤ x.toNat := by omega
  have e2 : ((x.toNat : Int) > 122) ↔ ¬ x.toNat ≤ 122 := by omega
  simp only [fm7, e1, e2]
  by_cases h1 : 97 ≤ x.toNat <;> by_cases h2 : x.toNat ≤ 122 <;> simp [h1, h2]
theorem fZ7 {s : Str} (h : s.size ≤ 1048576) : gw7 s = some (bb7 s) := by
 unfold gw7 bb7
 rw [if_pos (aa7 h), iq7 (gl := fB7) (p := fun (b : UInt8) _ => decide (97 ≤ b.toNat) && decide (b.toNat ≤ 122)) (xs := s.data.toList) (fun _ => rfl) (fun x l k _ => ?_) s.data.toList 0 rfl]
 ·have e1 : ((s.size : Int) ≥ 1) ↔ 1 ≤ s.size := by omega
  have e2 : ((s.size : Int) ≤ 6) ↔ s.size ≤ 6 := by omega
  cases a27 (fun (b : UInt8) _ => decide (97 ≤ b.toNat) && decide (b.toNat ≤ 122)) s.data.toList 0
  ·rfl
  ·by_cases h1 : 1 ≤ s.size <;> simp [ek7, e1, e2, h1]
 ·have e1 : ((x.toNat : Int) < 97) ↔ ¬ 97 ≤ x.toNat := by omega
  have e2 : ((x.toNat : Int) > 122) ↔ ¬ x.toNat ≤ 122 := by omega
  simp only [fB7, e1, e2]
  by_cases h1 : 97 ≤ x.toNat <;> by_cases h2 : x.toNat ≤ 122 <;> simp [h1, h2]
theorem Ff7 (n : Int) : nJ7 n = some (lA7 n) := by
 unfold nJ7 lA7
 by_cases h : -1000 ≤ n <;> simp [h]
theorem eC7 (n a b : Int) : ek7 n a b = some (decide (a ≤ n) && decide (n ≤ b)) := by
 unfold ek7
 by_cases h : a ≤ n <;> simp [h]
theorem Fg7 {xs : List Pt} (h : xs.length ≤ 1048576) : qB7 xs = some (DU7 xs && decide (xs.length ≤ 6)) := by
 unfold qB7 DU7
 rw [if_pos (aa7 h), iq7 (gl := d87 xs) (p := fun p k => lA7 p.x && (lA7 p.y && (decide (k = 0) || decide (xs[k - 1]? ≠ some p)))) (xs := xs) (fun _ => rfl) (fun x l k hd => ?_) xs 0 rfl]
 ·rw [show decide ((xs.length : Int) ≤ 6) = decide (xs.length ≤ 6) from DS7]
  exact ME7
 ·simp only [d87, Ff7, Option.bind_some, ptb, DT7]
  rcases Nat.eq_zero_or_pos k with rfl | hk
  ·cases lA7 x.x <;> cases lA7 x.y <;> simp
  ·obtain ⟨y, hy⟩ := eZ7 hd hk
   have hl := ch7 hd
   have hw := cd7 hk (by omega)
   rw [hw, ag7, hy]
   have hk' : ¬ k = 0 := by omega
   by_cases e : x = y
   ·subst e
    cases lA7 x.x <;> cases lA7 x.y <;> simp [hk, hk', hy]
   ·have e' : ¬ y = x := fun h => e h.symm
    cases lA7 x.x <;> cases lA7 x.y <;> simp [hk, hk', hy, e, e']
theorem iI7 {x : aI7} (h : x.pts.length ≤ 1048576) : jZ7 x = some (dq7 x) := by
 unfold jZ7 dq7
 rw [Fg7 h]
 simp only [Option.bind_some, ptb]
 have c1 : ((x.pts.length : Int) == 1) = decide (x.pts.length = 1) := by
  by_cases e : x.pts.length = 1 <;> simp [e] <;> omega
 have c2 : ((x.pts.length : Int) ≥ 2) ↔ 2 ≤ x.pts.length := by omega
 have c3 : ((x.pts.length : Int) ≥ 3) ↔ 3 ≤ x.pts.length := by omega
 cases DU7 x.pts
 ·simp
 ·by_cases hl : x.pts.length ≤ 6
  ·by_cases k1 : x.kind = 1
   ·simp [k1, hl, c1]
   ·by_cases k2 : x.kind = 2
    ·simp [k2, hl, c2]
    ·by_cases k3 : x.kind = 3
     ·by_cases h3 : 3 ≤ x.pts.length
      ·obtain ⟨p, hp⟩ : ∃ p, x.pts[0]? = some p := ⟨x.pts[0], List.getElem?_eq_getElem (by omega)⟩
       obtain ⟨q, hq⟩ : ∃ p, x.pts[x.pts.length - 1]? = some p := ⟨x.pts[x.pts.length - 1], List.getElem?_eq_getElem (by omega)⟩
       have hw := cd7 (k := x.pts.length) (by omega) (by omega)
       have e0 : idx x.pts 0 = some p := by rw [← hp]; exact ag7 (k := 0)
       have e1 : idx x.pts ((x.pts.length - 1 : Nat) : Int) = some q := by rw [← hq]; exact ag7
       rw [hw]
       simp [k3, hl, c3, h3, e0, e1, hp, hq]
      ·simp [k3, hl, c3, h3]
     ·simp [k1, k2, k3, hl]
  ·simp [hl]
theorem Mg7 (p : Pt) : qV7 p = some (lA7 p.x && lA7 p.y) := by
 unfold qV7 lA7
 rw [eC7, eC7]
 simp only [Option.bind_some]
 cases (decide (-1000 ≤ p.x) && decide (p.x ≤ 1000)) <;> simp
theorem rN7 {x : aI7} (h : x.pts.length ≤ 1048576) : lN7 x = some (dq7 x) := by
 unfold lN7 dq7
 have c1 : ((x.pts.length : Int) == 1) = decide (x.pts.length = 1) := by
  by_cases e : x.pts.length = 1 <;> simp [e] <;> omega
 have c2 : ((2 : Int) ≤ (x.pts.length : Int)) ↔ 2 ≤ x.pts.length := by omega
 have c3 : ((3 : Int) ≤ (x.pts.length : Int)) ↔ 3 ≤ x.pts.length := by omega
 have c6 : ((x.pts.length : Int) ≤ 6) ↔ x.pts.length ≤ 6 := by omega
 rw [if_pos (aa7 h), iq7 (gl := el7 x) (p := fun p k => lA7 p.x && (lA7 p.y && (decide (k = 0) || decide (x.pts[k - 1]? ≠ some p)))) (xs := x.pts) (fun _ => rfl) (fun y l k hd => ?_) x.pts 0 rfl]
 ·show _ = some (DU7 x.pts && _)
  have hm : a27 (fun (p : Pt) k => lA7 p.x && (lA7 p.y && (decide (k = 0) || decide (x.pts[k - 1]? ≠ some p)))) x.pts 0 = DU7 x.pts := rfl
  rw [hm]
  cases DU7 x.pts
  ·rfl
  ·simp only [if_true, Option.bind_some, ptb, eC7]
   by_cases k1 : x.kind = 1
   ·by_cases e : x.pts.length = 1 <;> simp [k1, c1, e]
   ·by_cases k2 : x.kind = 2
    ·by_cases e : x.pts.length ≤ 6 <;> simp [k2, c2, c6, e]
    ·by_cases k3 : x.kind = 3
     ·by_cases h3 : 3 ≤ x.pts.length
      ·obtain ⟨p, hp⟩ : ∃ p, x.pts[0]? = some p := ⟨x.pts[0], List.getElem?_eq_getElem (by omega)⟩
       obtain ⟨q, hq⟩ : ∃ p, x.pts[x.pts.length - 1]? = some p := ⟨x.pts[x.pts.length - 1], List.getElem?_eq_getElem (by omega)⟩
       have hw := cd7 (k := x.pts.length) (by omega) (by omega)
       have e0 : idx x.pts 0 = some p := by rw [← hp]; exact ag7 (k := 0)
       have e1 : idx x.pts ((x.pts.length - 1 : Nat) : Int) = some q := by rw [← hq]; exact ag7
       rw [hw]
       by_cases e : x.pts.length ≤ 6 <;> simp [k3, c3, c6, h3, e0, e1, hp, hq, e]
      ·simp [k3, c3, c6, h3]
     ·simp [k1, k2, k3]
 ·simp only [el7, Mg7, Option.bind_some, ptb, DT7]
  rcases Nat.eq_zero_or_pos k with rfl | hk
  ·cases lA7 y.x <;> cases lA7 y.y <;> simp
  ·obtain ⟨z, hz⟩ := eZ7 hd hk
   have hl := ch7 hd
   have hw := cd7 hk (by omega)
   rw [hw, ag7, hz]
   have hk' : ¬ k = 0 := by omega
   by_cases e : z = y <;> cases lA7 y.x <;> cases lA7 y.y <;> simp [hk, hk', hz, e]
theorem A07 {ts : List Tag} (h : wL sN7 ts ≤ 1048576) : qD7 ts = some (qu7 ts && decide (ts.length ≤ 4)) := by
 have hlen : ts.length ≤ 1048576 := by unfold wL at h; omega
 unfold qD7 qu7
 rw [if_pos (aa7 hlen), iq7 (gl := d97 ts) (p := fun t k => bb7 t.key && (bb7 t.val && (decide (k = 0) || km7 Tag.key ts t k))) (xs := ts) (fun _ => rfl) (fun x l k hd => ?_) ts 0 rfl]
 ·rw [show decide ((ts.length : Int) ≤ 4) = decide (ts.length ≤ 4) from DS7]
  exact ME7
 ·have hx : x ∈ ts := List.mem_of_getElem? (cs7 hd)
  have hs := bA7 (w := sN7) hx
  unfold wL at h
  have hk1 : x.key.size ≤ 1048576 := by have e0 : sN7 x = x.key.size + (x.val.size + 0) := rfl; omega
  have hk2 : x.val.size ≤ 1048576 := by have e0 : sN7 x = x.key.size + (x.val.size + 0) := rfl; omega
  simp only [d97, eB7 hk1, eB7 hk2, Option.bind_some, DT7, sO7]
  rcases Nat.eq_zero_or_pos k with rfl | hk
  ·cases bb7 x.key <;> cases bb7 x.val <;> simp
  ·obtain ⟨z, hz⟩ := eZ7 hd hk
   have hl := ch7 hd
   have hw := cd7 hk (by omega)
   rw [hw, ag7, hz]
   have hk' : ¬ k = 0 := by omega
   cases e : slt z.key x.key <;> cases bb7 x.key <;> cases bb7 x.val <;> simp [hk, hk', hz, e, km7]
theorem uC7 {f : Feat} (h : aZ7 f ≤ 1048576) : lE7 f = some (bM7 f) := by
 unfold aZ7 hg7 at h
 have h1 : f.id.size ≤ 1048576 := by omega
 have h2 : f.shape.pts.length ≤ 1048576 := by unfold wL at h; omega
 unfold lE7 bM7
 rw [eB7 h1, iI7 h2, A07 (by omega)]
 simp only [Option.bind_some]
 cases bb7 f.id <;> cases dq7 f.shape <;> simp
theorem iJ7 {f : Feat} (h : aZ7 f ≤ 1048576) : hk7 f = some (bM7 f) := by
 unfold aZ7 hg7 at h
 have h1 : f.id.size ≤ 1048576 := by omega
 have h2 : f.shape.pts.length ≤ 1048576 := by unfold wL at h; omega
 have h3 : wL sN7 f.tags ≤ 1048576 := by omega
 have hlen : f.tags.length ≤ 1048576 := by unfold wL at h3; omega
 unfold hk7 bM7
 rw [if_pos (aa7 hlen), iq7 (gl := em7 f) (p := fun t k => bb7 t.key && (bb7 t.val && (decide (k = 0) || km7 Tag.key f.tags t k))) (xs := f.tags) (fun _ => rfl) (fun x l k hd => ?_) f.tags 0 rfl]
 ·have hm : a27 (fun (t : Tag) k => bb7 t.key && (bb7 t.val && (decide (k = 0) || km7 Tag.key f.tags t k))) f.tags 0 = qu7 f.tags := rfl
  rw [hm, fZ7 h1, rN7 h2]
  rw [show decide ((f.tags.length : Int) ≤ 4) = decide (f.tags.length ≤ 4) from DS7]
  cases qu7 f.tags <;> cases bb7 f.id <;> cases dq7 f.shape <;> simp
 ·have hx : x ∈ f.tags := List.mem_of_getElem? (cs7 hd)
  have hs := bA7 (w := sN7) hx
  unfold wL at h3
  have hk1 : x.key.size ≤ 1048576 := by have e0 : sN7 x = x.key.size + (x.val.size + 0) := rfl; omega
  have hk2 : x.val.size ≤ 1048576 := by have e0 : sN7 x = x.key.size + (x.val.size + 0) := rfl; omega
  simp only [em7, fZ7 hk1, fZ7 hk2, Option.bind_some, DT7]
  rcases Nat.eq_zero_or_pos k with rfl | hk
  ·cases bb7 x.key <;> cases bb7 x.val <;> simp
  ·obtain ⟨z, hz⟩ := eZ7 hd hk
   have hl := ch7 hd
   have hw := cd7 hk (by omega)
   rw [hw, ag7, hz]
   have hk' : ¬ k = 0 := by omega
   cases e : slt z.key x.key <;> cases bb7 x.key <;> cases bb7 x.val <;> simp [hk, hk', hz, e, km7]
theorem e77 {fs : List Feat} (h : wL aZ7 fs ≤ 1048576) : hh7 fs = some (a97 fs) := by
 have hlen : fs.length ≤ 1048576 := by unfold wL at h; omega
 unfold hh7 a97
 rw [if_pos (aa7 hlen), iq7 (gl := ea7 fs) (p := fun f k => bM7 f && (decide (k = 0) || km7 Feat.id fs f k)) (xs := fs) (fun _ => rfl) (fun x l k hd => ?_) fs 0 rfl]
 ·rw [show decide ((fs.length : Int) ≤ 8) = decide (fs.length ≤ 8) from DS7]
  exact ME7
 ·have hx : x ∈ fs := List.mem_of_getElem? (cs7 hd)
  have hs := bA7 (w := aZ7) hx
  unfold wL at h
  simp only [ea7, uC7 (f := x) (by omega), Option.bind_some, DT7, sO7]
  rcases Nat.eq_zero_or_pos k with rfl | hk
  ·cases bM7 x <;> simp
  ·obtain ⟨z, hz⟩ := eZ7 hd hk
   have hl := ch7 hd
   have hw := cd7 hk (by omega)
   rw [hw, ag7, hz]
   have hk' : ¬ k = 0 := by omega
   cases e : slt z.id x.id <;> cases bM7 x <;> simp [hk, hk', hz, e, km7]
theorem gD7 {fs : List Feat} (h : wL aZ7 fs ≤ 1048576) : iu7 fs = some (a97 fs) := by
 have hlen : fs.length ≤ 1048576 := by unfold wL at h; omega
 unfold iu7 a97
 rw [if_pos (aa7 hlen), iq7 (gl := en7 fs) (p := fun f k => bM7 f && (decide (k = 0) || km7 Feat.id fs f k)) (xs := fs) (fun _ => rfl) (fun x l k hd => ?_) fs 0 rfl]
 ·rw [show decide ((fs.length : Int) ≤ 8) = decide (fs.length ≤ 8) from DS7]
  exact ME7
 ·have hx : x ∈ fs := List.mem_of_getElem? (cs7 hd)
  have hs := bA7 (w := aZ7) hx
  unfold wL at h
  simp only [en7, iJ7 (f := x) (by omega), Option.bind_some, DT7, sO7]
  rcases Nat.eq_zero_or_pos k with rfl | hk
  ·cases bM7 x <;> simp
  ·obtain ⟨z, hz⟩ := eZ7 hd hk
   have hl := ch7 hd
   have hw := cd7 hk (by omega)
   rw [hw, ag7, hz]
   have hk' : ¬ k = 0 := by omega
   cases e : slt z.id x.id <;> cases bM7 x <;> simp [hk, hk', hz, e, km7]
theorem kM7 {a b : List Pt} (h : a.length ≤ 1048576) : lF7 a b = some (decide (a = b)) := cL7 (gl := fn7) (ok := fun _ => True) (fun _ _ => rfl) (fun a x l k y _ hy => by
 simp only [fn7, ag7, hy, Option.bind_some, ptb]
 by_cases e : x = y <;> simp [e]) (fun _ _ => rfl) h (fun _ _ => trivial)
theorem uD7 {a b : List Pt} (h : a.length ≤ 1048576) : e37 a b = some (decide (a = b)) := cL7 (gl := fC7) (ok := fun _ => True) (fun _ _ => rfl) (fun a x l k y _ hy => by
 simp only [fC7, ag7, hy, Option.bind_some, ptb]
 by_cases e : x = y <;> simp [e]) (fun _ _ => rfl) h (fun _ _ => trivial)
theorem A17 {a b : List Tag} (h : a.length ≤ 1048576) : ue7 a b = some (decide (a = b)) := cL7 (gl := fo7) (ok := fun _ => True) (fun _ _ => rfl) (fun a x l k y _ hy => by
 simp only [fo7, ag7, hy, Option.bind_some, QS7]
 by_cases e : x = y <;> simp [e]) (fun _ _ => rfl) h (fun _ _ => trivial)
theorem Fh7 {a b : List Tag} (h : a.length ≤ 1048576) : uj7 a b = some (decide (a = b)) := cL7 (gl := fD7) (ok := fun _ => True) (fun _ _ => rfl) (fun a x l k y _ hy => by
 simp only [fD7, ag7, hy, Option.bind_some, QS7]
 by_cases e : x = y <;> simp [e]) (fun _ _ => rfl) h (fun _ _ => trivial)
theorem A27 {a b : List Int} (h : a.length ≤ 1048576) : uf7 a b = some (decide (a = b)) := cL7 (gl := fp7) (ok := fun _ => True) (fun _ _ => rfl) (fun a x l k y _ hy => by
 simp only [fp7, ag7, hy, Option.bind_some]
 by_cases e : x = y <;> simp [e]) (fun _ _ => rfl) h (fun _ _ => trivial)
theorem Fi7 {a b : List Int} (h : a.length ≤ 1048576) : ul7 a b = some (decide (a = b)) := cL7 (gl := fF7) (ok := fun _ => True) (fun _ _ => rfl) (fun a x l k y _ hy => by
 simp only [fF7, ag7, hy, Option.bind_some]
 by_cases e : x = y <;> simp [e]) (fun _ _ => rfl) h (fun _ _ => trivial)
theorem f07 {a b : aI7} (h : a.pts.length ≤ 1048576) : j07 a b = some (decide (a = b)) := by
 unfold j07
 rw [kM7 h]
 obtain ⟨k, p⟩ := a; obtain ⟨k2, p2⟩ := b
 by_cases h1 : k = k2 <;> by_cases h2 : p = p2 <;> simp [h1, h2]
theorem gZ7 {a b : Feat} (h : aZ7 a ≤ 1048576) : f87 a b = some (decide (a = b)) := by
 unfold aZ7 hg7 wL at h
 unfold f87
 rw [f07 (by omega), A17 (by omega), bT7]
 obtain ⟨i, s, t⟩ := a; obtain ⟨i2, s2, t2⟩ := b
 by_cases h1 : i = i2 <;> by_cases h2 : s = s2 <;> by_cases h3 : t = t2 <;> simp [h1, h2, h3]
theorem f17 {a b : aI7} (h : a.pts.length ≤ 1048576) : j57 a b = some (decide (a = b)) := by
 unfold j57
 rw [uD7 h]
 obtain ⟨k, p⟩ := a; obtain ⟨k2, p2⟩ := b
 by_cases h1 : k = k2 <;> by_cases h2 : p = p2 <;> simp [h1, h2]
theorem ob7 {a b : Feat} (h : aZ7 a ≤ 1048576) : nR7 a b = some (decide (a = b)) := by
 unfold aZ7 hg7 wL at h
 unfold nR7
 rw [f17 (by omega), Fh7 (by omega), bT7]
 obtain ⟨i, s, t⟩ := a; obtain ⟨i2, s2, t2⟩ := b
 by_cases h1 : i = i2 <;> by_cases h2 : s = s2 <;> by_cases h3 : t = t2 <;> simp [h1, h2, h3]
theorem s47 {a b : List Feat} (h : wL aZ7 a ≤ 1048576) : ug7 a b = some (decide (a = b)) := cL7 (gl := fq7) (ok := fun x => aZ7 x ≤ 1048576) (fun _ _ => rfl) (fun a x l k y hx hy => by
 simp only [fq7, ag7, hy, Option.bind_some, gZ7 hx]
 by_cases e : x = y <;> simp [e]) (fun _ _ => rfl) (by unfold wL at h; omega) (fun x hx => by have := bA7 (w := aZ7) hx; unfold wL at h; omega)
theorem A37 {a b : List Feat} (h : wL aZ7 a ≤ 1048576) : uk7 a b = some (decide (a = b)) := cL7 (gl := fE7) (ok := fun x => aZ7 x ≤ 1048576) (fun _ _ => rfl) (fun a x l k y hx hy => by
 simp only [fE7, ag7, hy, Option.bind_some, ob7 hx]
 by_cases e : x = y <;> simp [e]) (fun _ _ => rfl) (by unfold wL at h; omega) (fun x hx => by have := bA7 (w := aZ7) hx; unfold wL at h; omega)
theorem s57 {a b : List Feat} (h : wL aZ7 a ≤ 1048576) : qW7 a b = some (decide (a = b)) := by
 unfold qW7
 rw [A37 h]
 rfl
theorem rO7 {a b : Commit} (h : ay7 a ≤ 1048576) : qE7 a b = some (decide (a = b)) := by
 unfold ay7 at h
 unfold qE7
 rw [A27 (by unfold wL at h; omega), s47 (by omega), bT7]
 obtain ⟨i, s, t⟩ := a; obtain ⟨i2, s2, t2⟩ := b
 by_cases h1 : i = i2 <;> by_cases h2 : s = s2 <;> by_cases h3 : t = t2 <;> simp [h1, h2, h3]
theorem ke7 {a b : Commit} (h : ay7 a ≤ 1048576) : nS7 a b = some (decide (a = b)) := by
 unfold ay7 at h
 unfold nS7
 rw [Fi7 (by unfold wL at h; omega), s57 (by omega), bT7]
 obtain ⟨i, s, t⟩ := a; obtain ⟨i2, s2, t2⟩ := b
 by_cases h1 : i = i2 <;> by_cases h2 : s = s2 <;> by_cases h3 : t = t2 <;> simp [h1, h2, h3]
theorem kN7 {r : am7} {c : Commit} (h : wL ay7 r.commits ≤ 1048576) : lH7 r c = some (dV7 r.commits c) := by
 unfold lH7 dV7
 rw [if_pos (aa7 (by unfold wL at h; omega))]
 exact mT7 (gl := fs7 c) (ok := fun x => ay7 x ≤ 1048576) (fun _ => rfl) (fun x l k hx => by simp only [fs7, rO7 hx, Option.bind_some]) _ 0 fun x hx => by have := bA7 (w := ay7) hx; unfold wL at h; omega
theorem iK7 {r : am7} {c : Commit} (h : wL ay7 r.commits ≤ 1048576) : nT7 r c = some (dV7 r.commits c) := by
 have key : qY7 r.commits c = some (dV7 r.commits c) := by
  unfold qY7 dV7
  rw [if_pos (aa7 (by unfold wL at h; omega))]
  exact mT7 (gl := fH7 c) (ok := fun x => ay7 x ≤ 1048576) (fun _ => rfl) (fun x l k hx => by simp only [fH7, um7, ke7 hx, Option.bind_some]) _ 0 fun x hx => by have := bA7 (w := ay7) hx; unfold wL at h; omega
 unfold nT7
 rw [key]
 rfl
theorem g07 {r : am7} {n : Str} (h : r.heads.length ≤ 1048576) : hi7 r n = some (aV7 r.heads n) := by
 unfold hi7 aV7
 rw [if_pos (aa7 h)]
 exact mT7 (gl := ft7 n) (ok := fun _ => True) (fun _ => rfl) (fun x l k _ => by simp only [ft7, bT7]) _ 0 fun _ _ => trivial
theorem db7 {r : am7} {n : Str} (h : r.heads.length ≤ 1048576) : hl7 r n = some (aV7 r.heads n) := by
 have key : qZ7 r.heads n = some (aV7 r.heads n) := by
  unfold qZ7 aV7
  rw [if_pos (aa7 h)]
  exact mT7 (gl := fI7 n) (ok := fun _ => True) (fun _ => rfl) (fun x l k _ => by simp only [fI7, un7, bT7, Option.bind_some]) _ 0 fun _ _ => trivial
 unfold hl7
 rw [key]
 rfl
theorem Mh7 {up : List Int} {k : Nat} (h : up.length ≤ 1048576) : qF7 up (k : Int) = some (mUp up k) := by
 unfold qF7 mUp
 rw [if_pos (aa7 h), iq7 (gl := fr7 (k : Int)) (p := fun (x : Int) _ => decide (0 ≤ x) && decide (x < (k : Int))) (xs := up) (fun _ => rfl) (fun x l j _ => ?_) up 0 rfl]
 ·generalize a27 (fun (x : Int) _ => decide (0 ≤ x) && decide (x < (k : Int))) up 0 = A
  cases A
  ·rfl
  ·have e1 : decide ((k : Int) > 0) = decide (0 < k) := DT7
   match up with
   | [] => cases e : decide (0 < k) <;> simp [e1, e]
   | [a] => cases e : decide (0 < k) <;> simp [e1, e]
   | [a, b] =>
    have i0 : idx [a, b] 0 = some a := rfl
    have i1 : idx [a, b] 1 = some b := rfl
    by_cases e2 : a = b
    ·subst e2
     cases e : decide (0 < k) <;> simp [e1, e, i0, i1]
    ·cases e : decide (0 < k) <;> simp [e1, e, i0, i1, e2]
   | a :: b :: c :: l =>
    have e2 : ¬ ((l.length : Int) + 1 + 1 + 1 ≤ 2) := by omega
    simp [e2]
 ·have e1 : (x ≥ (k : Int)) ↔ ¬ x < (k : Int) := by omega
  have e2 : (x < 0) ↔ ¬ 0 ≤ x := by omega
  simp only [fr7, e1, e2]
  by_cases h1 : 0 ≤ x <;> by_cases h2 : x < (k : Int) <;> simp [h1, h2]
theorem ph7 {r : am7} (h : a37 r ≤ 1048576) : lJ7 r = some (bp7 r) := by
 unfold a37 at h
 have hc : wL ay7 r.commits ≤ 1048576 := by omega
 have hh : wL gi7 r.heads ≤ 1048576 := by omega
 have hcl : r.commits.length ≤ 1048576 := by unfold wL at hc; omega
 have hhl : r.heads.length ≤ 1048576 := by unfold wL at hh; omega
 have c1 : ((r.commits.length : Int) < 1) ↔ ¬ 1 ≤ r.commits.length := by omega
 have c2 : ((r.commits.length : Int) > 14) ↔ ¬ r.commits.length ≤ 14 := by omega
 have c3 : ((r.heads.length : Int) < 1) ↔ ¬ 1 ≤ r.heads.length := by omega
 have c4 : ((r.heads.length : Int) > 4) ↔ ¬ r.heads.length ≤ 4 := by omega
 have k1 : eb7 r r.commits 0 = some (if df7 r.commits = true then .inr () else .inl false) := by
  refine iq7 (gl := eb7 r) (p := fun c k => mUp c.up k && (a97 c.sheet && (bb7 c.note && decide (dV7 r.commits c = (k : Int))))) (xs := r.commits) (fun _ => rfl) (fun x l k hd => ?_) r.commits 0 rfl
  have hx : x ∈ r.commits := List.mem_of_getElem? (cs7 hd)
  have hs := bA7 (w := ay7) hx
  have e0 : ay7 x = wL w0 x.up + (wL aZ7 x.sheet + (x.note.size + 0)) := rfl
  have hs' : ay7 x ≤ 1048576 := by unfold wL at hc; omega
  have hu : x.up.length ≤ 1048576 := by have : wL w0 x.up = x.up.length + hW7 w0 x.up := rfl; omega
  simp only [eb7, Mh7 hu, e77 (fs := x.sheet) (by omega), eB7 (s := x.note) (by omega), kN7 hc, Option.bind_some]
  by_cases e : dV7 r.commits x = (k : Int) <;> cases mUp x.up k <;> cases a97 x.sheet <;> cases bb7 x.note <;> simp [e]
 have k2 : ec7 r r.heads 0 = some (if lB7 r.commits.length r.heads = true then .inr () else .inl false) := by
  refine iq7 (gl := ec7 r) (p := fun h k => bb7 h.name && (decide (aV7 r.heads h.name = (k : Int)) && (decide (0 ≤ h.at_) && decide (h.at_ < (r.commits.length : Int))))) (xs := r.heads) (fun _ => rfl) (fun x l k hd => ?_) r.heads 0 rfl
  have hx : x ∈ r.heads := List.mem_of_getElem? (cs7 hd)
  have hs := bA7 (w := gi7) hx
  have e0 : gi7 x = x.name.size + 0 := rfl
  have hs' : x.name.size ≤ 1048576 := by unfold wL at hh; omega
  have d1 : (x.at_ < 0) ↔ ¬ 0 ≤ x.at_ := by omega
  have d2 : (x.at_ ≥ (r.commits.length : Int)) ↔ ¬ x.at_ < (r.commits.length : Int) := by omega
  simp only [ec7, eB7 hs', g07 hhl, Option.bind_some, d1, d2]
  by_cases e : aV7 r.heads x.name = (k : Int) <;> by_cases e1 : 0 ≤ x.at_ <;> by_cases e2 : x.at_ < (r.commits.length : Int) <;> cases bb7 x.name <;> simp [e, e1, e2]
 unfold lJ7 bp7
 rw [k1, k2, if_pos (aa7 hcl), if_pos (aa7 hhl)]
 simp only [c1, c2, c3, c4]
 by_cases h1 : 1 ≤ r.commits.length <;> by_cases h2 : r.commits.length ≤ 14 <;> by_cases h3 : 1 ≤ r.heads.length <;> by_cases h4 : r.heads.length ≤ 4 <;> cases df7 r.commits <;> cases lB7 r.commits.length r.heads <;> simp [h1, h2, h3, h4]
theorem mc7 {r : am7} {k : Int} (h : r.commits.length ≤ 1048576) : lP7 r k = some (decide (0 ≤ k) && decide (k < (r.commits.length : Int))) := by
 unfold lP7
 rw [aP7 (by omega) (by omega), eC7]
 have e : (k ≤ (r.commits.length : Int) - 1) ↔ k < (r.commits.length : Int) := by omega
 simp [e]
theorem md7 (x : Int) : lO7 [] x = some false := rfl
theorem s67 (a x : Int) : lO7 [a] x = some (decide (x = a)) := by
 have hf : aE7 1 = true := aa7 (by omega)
 by_cases e : x = a
 ·subst e
  simp [lO7, qX7, hf, fG7]
 ·simp [lO7, qX7, hf, fG7, e]
theorem Qh7 {c : Commit} {k : Nat} (hk : k ≤ 1048576) (h : c.up.length ≤ 2) : eo7 k c c.up 0 = some (if (a27 (fun (x : Int) _ => decide (0 ≤ x) && decide (x < (k : Int))) c.up 0 && decide (c.up[0]? = none ∨ c.up[0]? ≠ c.up[1]?)) = true then .inr () else .inl false) := by
 have hw : IntKind.i64.wrap ((k : Int) - 1) = (k : Int) - 1 := aP7 (by omega) (by omega)
 have hi : ∀ x : Int, (x ≤ (k : Int) - 1) ↔ x < (k : Int) := fun x => by omega
 obtain ⟨up, sh, nt⟩ := c
 match up, h with
 | [], _ => rfl
 | [a], _ =>
  have s0 : slc [a] 0 ((0 : Nat) : Int) = some [] := by simp [slc]
  simp only [eo7, eC7, hw, hi, Option.bind_some, s0, md7, a27]
  by_cases h1 : 0 ≤ a <;> by_cases h2 : a < (k : Int) <;> simp [h1, h2]
 | [a, b], _ =>
  have s0 : slc [a, b] 0 ((0 : Nat) : Int) = some [] := by simp [slc]
  have s1 : slc [a, b] 0 ((0 + 1 : Nat) : Int) = some [a] := by simp [slc]
  simp only [eo7, eC7, hw, hi, Option.bind_some, s0, s1, md7, s67, a27]
  by_cases e : b = a
  ·subst e
   by_cases h1 : 0 ≤ b <;> by_cases h2 : b < (k : Int) <;> simp [h1, h2]
  ·have e' : ¬ a = b := fun h => e h.symm
   by_cases h1 : 0 ≤ a <;> by_cases h2 : a < (k : Int) <;> by_cases h3 : 0 ≤ b <;> by_cases h4 : b < (k : Int) <;> simp [h1, h2, h3, h4, e, e']
 | _ :: _ :: _ :: _, h => simp at h
theorem kO7 {r : am7} (h : a37 r ≤ 1048576) : j77 r = some (bp7 r) := by
 unfold a37 at h
 have hc : wL ay7 r.commits ≤ 1048576 := by omega
 have hh : wL gi7 r.heads ≤ 1048576 := by omega
 have hcl : r.commits.length ≤ 1048576 := by unfold wL at hc; omega
 have hhl : r.heads.length ≤ 1048576 := by unfold wL at hh; omega
 have c1 : ((1 : Int) ≤ r.commits.length) ↔ 1 ≤ r.commits.length := by omega
 have c2 : ((r.commits.length : Int) ≤ 14) ↔ r.commits.length ≤ 14 := by omega
 have c3 : ((1 : Int) ≤ r.heads.length) ↔ 1 ≤ r.heads.length := by omega
 have c4 : ((r.heads.length : Int) ≤ 4) ↔ r.heads.length ≤ 4 := by omega
 have k1 : ep7 r r.commits 0 = some (if df7 r.commits = true then .inr () else .inl false) := by
  refine iq7 (gl := ep7 r) (p := fun c k => mUp c.up k && (a97 c.sheet && (bb7 c.note && decide (dV7 r.commits c = (k : Int))))) (xs := r.commits) (fun _ => rfl) (fun x l k hd => ?_) r.commits 0 rfl
  have hx : x ∈ r.commits := List.mem_of_getElem? (cs7 hd)
  have hkl := ch7 hd
  have hs := bA7 (w := ay7) hx
  have e0 : ay7 x = wL w0 x.up + (wL aZ7 x.sheet + (x.note.size + 0)) := rfl
  have hs' : ay7 x ≤ 1048576 := by unfold wL at hc; omega
  have hu : x.up.length ≤ 1048576 := by have : wL w0 x.up = x.up.length + hW7 w0 x.up := rfl; omega
  have d1 : (((k : Int) == 0) == ((x.up.length : Int) == 0)) = (decide (0 < x.up.length) == decide (0 < k)) := by
   rw [zI, zI, Q17, Q17]
   cases decide (k = 0) <;> cases decide (x.up.length = 0) <;> rfl
  have d2 : ((x.up.length : Int) > 2) ↔ ¬ x.up.length ≤ 2 := by omega
  obtain ⟨B, hB⟩ : ∃ B, (decide (0 < x.up.length) == decide (0 < k)) = B := ⟨_, rfl⟩
  rw [hB] at d1
  simp only [ep7, gD7 (fs := x.sheet) (by omega), fZ7 (s := x.note) (by omega), iK7 hc, Option.bind_some, d1, d2, mUp, hB]
  clear d1 hB
  by_cases b : x.up.length ≤ 2
  ·rw [Qh7 (by omega) b, if_pos (aa7 hu)]
   obtain ⟨D, hD⟩ : ∃ D, (decide (x.up[0]? = none ∨ x.up[0]? ≠ x.up[1]?)) = D := ⟨_, rfl⟩
   rw [hD]
   clear hD
   by_cases e : dV7 r.commits x = (k : Int) <;> cases B <;> cases a97 x.sheet <;> cases bb7 x.note <;> cases a27 (fun (x : Int) _ => decide (0 ≤ x) && decide (x < (k : Int))) x.up 0 <;> cases D <;> simp [e, b]
  ·by_cases e : dV7 r.commits x = (k : Int) <;> cases B <;> cases a97 x.sheet <;> cases bb7 x.note <;> simp [e, b]
 have k2 : eq7 r r.heads 0 = some (if lB7 r.commits.length r.heads = true then .inr () else .inl false) := by
  refine iq7 (gl := eq7 r) (p := fun h k => bb7 h.name && (decide (aV7 r.heads h.name = (k : Int)) && (decide (0 ≤ h.at_) && decide (h.at_ < (r.commits.length : Int))))) (xs := r.heads) (fun _ => rfl) (fun x l k hd => ?_) r.heads 0 rfl
  have hx : x ∈ r.heads := List.mem_of_getElem? (cs7 hd)
  have hs := bA7 (w := gi7) hx
  have e0 : gi7 x = x.name.size + 0 := rfl
  have hs' : x.name.size ≤ 1048576 := by unfold wL at hh; omega
  simp only [eq7, fZ7 hs', db7 hhl, mc7 hcl, Option.bind_some]
  by_cases e : aV7 r.heads x.name = (k : Int) <;> by_cases e1 : 0 ≤ x.at_ <;> by_cases e2 : x.at_ < (r.commits.length : Int) <;> cases bb7 x.name <;> simp [e, e1, e2]
 unfold j77 bp7
 rw [k1, k2, if_pos (aa7 hcl), if_pos (aa7 hhl), eC7, eC7]
 simp only [c1, c2, c3, c4, Option.bind_some]
 by_cases h1 : 1 ≤ r.commits.length <;> by_cases h2 : r.commits.length ≤ 14 <;> by_cases h3 : 1 ≤ r.heads.length <;> by_cases h4 : r.heads.length ≤ 4 <;> cases df7 r.commits <;> cases lB7 r.commits.length r.heads <;> simp [h1, h2, h3, h4]
theorem uE7 {r : am7} {k : Int} (h : a37 r ≤ 1048576) : j27 r k = some (bp7 r && (decide (0 ≤ k) && decide (k < (r.commits.length : Int)))) := by
 unfold j27
 rw [ph7 h]
 by_cases h1 : 0 ≤ k <;> cases bp7 r <;> simp [h1]
theorem yt7 {n j : Nat} : (List.replicate n false)[j]? ≠ some true := by
 rw [List.getElem?_replicate]
 split <;> simp
theorem oc7 {cs : List Commit} {F : List Nat} (hF : ∀ f ∈ F, f < cs.length) : Marks cs F cs.length (dX7 (List.replicate cs.length false) (F.map fun (f : Nat) => (f : Int))) where
 len := by rw [jw7, List.length_replicate]
 snd := fun j hj => by
  rcases cE7.1 hj with hj | ⟨_, u, hu, rfl⟩
  ·exact absurd hj yt7
  ·obtain ⟨f, hf, rfl⟩ := List.mem_map.1 hu
   exact ⟨f, hf, .refl f⟩
 frm := fun f hf => cE7.2 (.inr ⟨by rw [List.length_replicate]; exact hF f hf, f, List.mem_map.2 ⟨f, hf, rfl⟩, rfl⟩)
 cl := fun j x u hj hb hx hu => by
  have := gC7 hx
  omega
theorem me7 : ∀ (l : List Int) (k : Nat) (m : List Bool), (∀ u ∈ l, 0 ≤ u ∧ u < (m.length : Int)) → fu7 l k m = some (dX7 m l)
 | [], k, m, h => rfl
 | u :: l, k, m, h => by
  have hu := h u (by simp)
  obtain ⟨b, hb⟩ := gY7 (xs := m) (i := u.toNat) (by omega)
  simp only [fu7, cm7 hu.1, hb, Option.bind_some]
  exact me7 l (k + 1) _ fun v hv => by
   rw [List.length_set]
   exact h v (by simp [hv])
theorem mf7 {r : am7} {v : Nat} {x : Commit} (hx : r.commits[v]? = some x) (hu : ∀ u ∈ x.up, 0 ≤ u ∧ u < (v : Int)) (h2 : x.up.length ≤ 2) : ∀ (l : List Int) (j n : Nat) (m : List Bool), x.up.drop j = l → l.length < n → m[v]? = some true → dg7 r (v : Int) n (j : Int) m = some (dX7 m l)
 | _, _, 0, _, _, h, _ => by omega
 | [], j, n + 1, m, h, hn, hm => by
  simp only [dg7, ag7, hx, Option.bind_some, sI7 h]
  rfl
 | u :: l, j, n + 1, m, h, hn, hm => by
  have hue := cs7 h
  have hul := hu u (List.mem_of_getElem? hue)
  have hvl := gC7 hm
  obtain ⟨b, hb⟩ := gY7 (xs := m) (i := u.toNat) (by omega)
  have hjl := ch7 h
  have hw : IntKind.i64.wrap ((j : Int) + 1) = ((j + 1 : Nat) : Int) := by rw [aP7 (by omega) (by omega)]; omega
  simp only [dg7, ag7, hx, Option.bind_some, sJ7 h, hm, hue, cm7 hul.1, hb, if_true, hw]
  exact mf7 hx hu h2 l (j + 1) n _ (im7 h) (by simp at hn; omega) (by rw [List.getElem?_set_ne (by omega)]; exact hm)
theorem rP7 {r : am7} {v n : Nat} {x : Commit} {m : List Bool} (hx : r.commits[v]? = some x) (hm : m[v]? = some false) : dg7 r (v : Int) (n + 1) 0 m = some m := by
 simp only [dg7, ag7, hx, Option.bind_some, hm]
 split
 ·rfl
 ·rfl
theorem hP7 {r : am7} {F : List Nat} (hc : pw7 r.commits) : ∀ (k n : Nat) (m : List Bool), k < n → k ≤ r.commits.length → k ≤ 1048576 → Marks r.commits F k m → fv7 r n ((k : Int) - 1) m = some (kL7 r.commits F)
 | _, 0, _, h, _, _, _ => by omega
 | 0, n + 1, m, _, _, _, h => by
  rw [h.fin]
  rfl
 | k + 1, n + 1, m, hn, hk, hb, h => by
  obtain ⟨x, hx⟩ := gY7 (xs := r.commits) (i := k) (by omega)
  obtain ⟨b, hb2⟩ := gY7 (xs := m) (i := k) (by rw [h.len]; omega)
  have e1 : (((k + 1 : Nat) : Int) - 1) = (k : Int) := by omega
  have hw : IntKind.i64.wrap ((k : Int) - 1) = (k : Int) - 1 := aP7 (by omega) (by omega)
  have hge : decide ((k : Int) ≥ 0) = true := decide_eq_true (by omega)
  have hr : aT7 = 4194303 + 1 := rfl
  rw [e1]
  simp only [fv7, hge, if_true, hw]
  cases b
  ·rw [hr, rP7 hx hb2]
   exact hP7 hc k n m (by omega) (by omega) (by omega) (h.skip (by rw [hb2]; simp))
  ·have h2 := hc.two x (List.mem_of_getElem? hx)
   have := mf7 hx (hc.lt k x hx) h2 x.up 0 aT7 m rfl (by rw [hr]; omega) hb2
   simp only [Int.ofNat_zero, Int.natCast_zero] at this
   rw [this]
   exact hP7 hc k n _ (by omega) (by omega) (by omega) (h.step hc hb2 hx)
theorem yu7 {r : am7} {F : List Nat} (hc : pw7 r.commits) (hl : r.commits.length ≤ 1048576) (hF : ∀ f ∈ F, f < r.commits.length) (hFl : F.length ≤ 1048576) : j37 r (F.map fun (f : Nat) => (f : Int)) = some (kL7 r.commits F) := by
 have hr : aT7 = 4194303 + 1 := rfl
 unfold j37
 rw [if_pos (by simp [aa7 hl]), if_pos (aa7 (by simpa using hFl)), Int.toNat_natCast, me7 _ _ _ (fun u hu => by
  obtain ⟨f, hf, rfl⟩ := List.mem_map.1 hu
  have := hF f hf
  rw [List.length_replicate]
  omega), aP7 (by omega) (by omega)]
 simp only [Option.bind_some]
 rw [hP7 hc r.commits.length aT7 _ (by rw [hr]; omega) (Nat.le_refl _) hl (oc7 hF)]
 rfl
theorem jy7 {r : am7} {k : Nat} (hc : pw7 r.commits) (hl : r.commits.length ≤ 1048576) (hk : k < r.commits.length) : j37 r [(k : Int)] = some (kL7 r.commits [k]) := by
 have := yu7 (r := r) (F := [k]) hc hl (by simpa using hk) (by simp)
 simpa using this
theorem uF7 : ∀ (l : List Int) (k : Nat) (m : List Bool), (∀ u ∈ l, 0 ≤ u ∧ u < (m.length : Int)) → fJ7 l k m = some (dX7 m l)
 | [], k, m, h => rfl
 | u :: l, k, m, h => by
  have hu := h u (by simp)
  obtain ⟨b, hb⟩ := gY7 (xs := m) (i := u.toNat) (by omega)
  simp only [fJ7, cm7 hu.1, hb, Option.bind_some]
  exact uF7 l (k + 1) _ fun v hv => by
   rw [List.length_set]
   exact h v (by simp [hv])
theorem pi7 {r : am7} {F : List Nat} (hc : pw7 r.commits) : ∀ (k n : Nat) (m : List Bool), k < n → k ≤ r.commits.length → k ≤ 1048576 → Marks r.commits F k m → er7 r n ((k : Int) - 1) m = some (kL7 r.commits F)
 | _, 0, _, h, _, _, _ => by omega
 | 0, n + 1, m, _, _, _, h => by
  rw [h.fin]
  rfl
 | k + 1, n + 1, m, hn, hk, hb, h => by
  obtain ⟨x, hx⟩ := gY7 (xs := r.commits) (i := k) (by omega)
  obtain ⟨b, hb2⟩ := gY7 (xs := m) (i := k) (by rw [h.len]; omega)
  have e1 : (((k + 1 : Nat) : Int) - 1) = (k : Int) := by omega
  have hw : IntKind.i64.wrap ((k : Int) - 1) = (k : Int) - 1 := aP7 (by omega) (by omega)
  have hge : decide ((k : Int) ≥ 0) = true := decide_eq_true (by omega)
  rw [e1]
  simp only [er7, hge, if_true, hw, ag7, hb2, Option.bind_some]
  cases b
  ·exact pi7 hc k n m (by omega) (by omega) (by omega) (h.skip (by rw [hb2]; simp))
  ·have h2 := hc.two x (List.mem_of_getElem? hx)
   simp only [hx, if_true, Option.bind_some]
   rw [if_pos (aa7 (by omega)), uF7 x.up 0 m (fun u hu => by
    have := hc.lt k x hx u hu
    rw [h.len]
    omega)]
   exact pi7 hc k n _ (by omega) (by omega) (by omega) (h.step hc hb2 hx)
theorem rQ7 {r : am7} {k : Nat} (hc : pw7 r.commits) (hl : r.commits.length ≤ 1048576) (hk : k < r.commits.length) : iv7 r (k : Int) = some (kL7 r.commits [k]) := by
 have hr : aT7 = 4194303 + 1 := rfl
 have h0 : (List.replicate r.commits.length false)[k]? = some false := by rw [List.getElem?_replicate, if_pos hk]
 have hm : Marks r.commits [k] (k + 1) ((List.replicate r.commits.length false).set k true) := by
  have := oc7 (cs := r.commits) (F := [k]) (by simpa using hk)
  exact s37 hc (by simpa [dX7] using this) (by simp) (by omega)
 have e1 : (((k + 1 : Nat) : Int) - 1) = (k : Int) := by omega
 have := pi7 hc (k + 1) aT7 _ (by rw [hr]; omega) (by omega) (by omega) hm
 rw [e1] at this
 unfold iv7
 rw [if_pos (by simp [aa7 hl])]
 simp only [Int.toNat_natCast, ag7, h0, Option.bind_some, this]
theorem iL7 {r : am7} {v : Nat} {x : Commit} (hx : r.commits[v]? = some x) (h2 : x.up.length ≤ 2) : ∀ (l : List Int) (j n : Nat) (m : List Bool), x.up.drop j = l → l.length < n → (∀ u ∈ l, 0 ≤ u ∧ u < (m.length : Int)) → dz7 r (v : Int) n (j : Int) m = some (dX7 m l)
 | _, _, 0, _, _, h, _ => by omega
 | [], j, n + 1, m, h, hn, hm => by
  simp only [dz7, ag7, hx, Option.bind_some, sI7 h]
  rfl
 | u :: l, j, n + 1, m, h, hn, hm => by
  have hue := cs7 h
  have hul := hm u (by simp)
  obtain ⟨b, hb⟩ := gY7 (xs := m) (i := u.toNat) (by omega)
  have hjl := ch7 h
  have hw : IntKind.i64.wrap ((j : Int) + 1) = ((j + 1 : Nat) : Int) := by rw [aP7 (by omega) (by omega)]; omega
  simp only [dz7, ag7, hx, Option.bind_some, sJ7 h, hue, cm7 hul.1, hb, if_true, hw]
  exact iL7 hx h2 l (j + 1) n _ (im7 h) (by simp at hn; omega) (fun v hv => by rw [List.length_set]; exact hm v (by simp [hv]))
open Classical in
theorem f27 {r : am7} {a b : Nat} (hc : pw7 r.commits) : ∀ (k n : Nat) (out : List Int) (d : List Bool), k < n → k ≤ r.commits.length → k ≤ 1048576 → out.length + k ≤ 1048576 → d.length = r.commits.length → (∀ j, j < k → (d[j]? = some true ↔ ∃ c x u, k ≤ c ∧ Com r.commits a b c ∧ r.commits[c]? = some x ∧ u ∈ x.up ∧ j = u.toNat)) → cN7 (kL7 r.commits [a]) (kL7 r.commits [b]) r n ((k : Int) - 1) out d = some (out ++ gl7 (fun k => decide (mD7 r.commits a b k)) k)
 | _, 0, _, _, h, _, _, _, _, _ => by omega
 | 0, n + 1, out, d, _, _, _, _, _, _ => by
  simp only [gl7, List.append_nil]
  rfl
 | k + 1, n + 1, out, d, hn, hk, hb, ho, hd, hi => by
  obtain ⟨x, hx⟩ := gY7 (xs := r.commits) (i := k) (by omega)
  obtain ⟨bd, hbd⟩ := gY7 (xs := d) (i := k) (by omega)
  have e1 : (((k + 1 : Nat) : Int) - 1) = (k : Int) := by omega
  have hw : IntKind.i64.wrap ((k : Int) - 1) = (k : Int) - 1 := aP7 (by omega) (by omega)
  have hge : decide ((k : Int) ≥ 0) = true := decide_eq_true (by omega)
  have h2 := hc.two x (List.mem_of_getElem? hx)
  have hr : aT7 = 4194303 + 1 := rfl
  have skip : ¬ Com r.commits a b k → cN7 (kL7 r.commits [a]) (kL7 r.commits [b]) r n ((k : Int) - 1) out d = some (out ++ gl7 (fun k => decide (mD7 r.commits a b k)) (k + 1)) := fun hnc => by
   have hnb : ¬ mD7 r.commits a b k := fun h => hnc h.1
   rw [f27 hc k n out d (by omega) (by omega) (by omega) (by omega) hd fun j hj => ?_]
   ·simp [gl7, hnb]
   ·rw [hi j (by omega)]
    constructor
    ·rintro ⟨c, y, u, h1, h3⟩
     exact ⟨c, y, u, by omega, h3⟩
    ·rintro ⟨c, y, u, h1, h3⟩
     rcases Nat.eq_or_lt_of_le h1 with rfl | h1
     ·exact absurd h3.1 hnc
     ·exact ⟨c, y, u, h1, h3⟩
  rw [e1]
  simp only [cN7, hge, if_true, hw, ag7, e67 (show k < r.commits.length by omega), hbd, Option.bind_some]
  by_cases h1 : Anc r.commits a k
  ·by_cases h3 : Anc r.commits b k
   ·have hcom : Com r.commits a b k := ⟨h1, h3⟩
    have hdb : bd = true ↔ ¬ mD7 r.commits a b k := by
     rw [← ys7 hc hcom]
     have := hi k (by omega)
     rw [hbd] at this
     simp only [Option.some.injEq] at this
     rw [this]
     constructor
     ·rintro ⟨c, y, u, _, h⟩
      exact ⟨c, y, u, h⟩
     ·rintro ⟨c, y, u, h4, h5, h6, h7⟩
      have := hc.lt _ _ h5 _ h6
      exact ⟨c, y, u, by omega, h4, h5, h6, h7⟩
    have hstep : dz7 r (k : Int) aT7 0 d = some (dX7 d x.up) := by
     have := iL7 hx h2 x.up 0 aT7 d rfl (by rw [hr]; omega) (fun u hu => by have := hc.lt k x hx u hu; omega)
     simpa using this
    have ih : ∀ out', out'.length + k ≤ 1048576 → cN7 (kL7 r.commits [a]) (kL7 r.commits [b]) r n ((k : Int) - 1) out' (dX7 d x.up) = some (out' ++ gl7 (fun k => decide (mD7 r.commits a b k)) k) := fun out' ho' => by
     refine f27 hc k n out' _ (by omega) (by omega) (by omega) ho' (by rw [jw7, hd]) fun j hj => ?_
     rw [cE7, hi j (by omega)]
     constructor
     ·rintro (⟨c, y, u, h4, h5⟩ | ⟨_, u, h4, rfl⟩)
      ·exact ⟨c, y, u, by omega, h5⟩
      ·exact ⟨k, x, u, Nat.le_refl _, hcom, hx, h4, rfl⟩
     ·rintro ⟨c, y, u, h4, h5, h6, h7, h8⟩
      rcases Nat.eq_or_lt_of_le h4 with rfl | h4
      ·rw [hx] at h6
       cases h6
       exact .inr ⟨by omega, u, h7, h8.symm⟩
      ·exact .inl ⟨c, y, u, h4, h5, h6, h7, h8⟩
    simp only [h1, h3, decide_true, Bool.not_true, hstep, Option.bind_some]
    cases bd
    ·have hbase : mD7 r.commits a b k := Classical.byContradiction fun h => by simpa using hdb.2 h
     simp only [Bool.not_false, if_true]
     rw [if_neg (by decide), if_neg (by decide), if_pos (aa7 (by simp; omega))]
     simp only [Option.bind_some]
     rw [ih _ (by simp; omega)]
     simp [gl7, hbase]
    ·have hbase : ¬ mD7 r.commits a b k := hdb.1 rfl
     simp only [Bool.not_true]
     rw [if_neg (by decide), if_neg (by decide), if_neg (by decide)]
     simp only [Option.bind_some]
     rw [ih _ (by omega)]
     simp [gl7, hbase]
   ·simp only [h1, h3, decide_true, decide_false, Bool.not_true, Bool.not_false]
    rw [if_neg (by decide), if_pos trivial]
    exact skip fun h => h3 h.2
  ·simp only [h1, decide_false, Bool.not_false, if_true]
   exact skip fun h => h1 h.1
def inR (r : am7) (k : Int) : Bool := bp7 r && (decide (0 ≤ k) && decide (k < (r.commits.length : Int)))
theorem kf7 {r : am7} {k : Int} (h : inR r k = true) : bp7 r = true ∧ ∃ n : Nat, k = (n : Int) ∧ n < r.commits.length := by
 unfold inR at h
 simp only [Bool.and_eq_true, decide_eq_true_eq] at h
 exact ⟨h.1, k.toNat, by omega, by omega⟩
theorem s77 {r : am7} {a b : Int} (hw : a37 r ≤ 1048576) : qH7 r a b = some (if (inR r a && inR r b) = true then oa7 r.commits a.toNat b.toNat else []) := by
 unfold qH7
 rw [uE7 hw, uE7 hw]
 by_cases h1 : inR r a = true
 ·by_cases h2 : inR r b = true
  ·obtain ⟨hr, i, rfl, hi⟩ := kf7 h1
   obtain ⟨_, j, rfl, hj⟩ := kf7 h2
   have hc := dr7 hr
   have hl := (fY7 hr).1.2
   have hrd : aT7 = 4194303 + 1 := rfl
   rw [h1, h2]
   simp only [inR] at h1 h2
   rw [h1, h2, jy7 hc (by omega) hi, jy7 hc (by omega) hj]
   simp only [Option.bind_some, Bool.not_true, if_true]
   rw [if_neg (by decide), if_neg (by decide), if_pos (by simp [aa7 (n := r.commits.length) (by omega)]), aP7 (by omega) (by omega), Int.toNat_natCast, f27 hc r.commits.length aT7 [] _ (by rw [hrd]; omega) (Nat.le_refl _) (by omega) (by simp; omega) (by simp) (fun k hk => ?_)]
   ·rfl
   ·constructor
    ·exact fun h => absurd h yt7
    ·rintro ⟨c, x, u, h3, h4, h5, _⟩
     have := gC7 h5
     omega
  ·have h2' := h2
   simp only [inR] at h1 h2'
   rw [h1]
   simp only [Bool.not_eq_true] at h2'
   rw [h2']
   simp [h2]
 ·have h1' := h1
  simp only [inR, Bool.not_eq_true] at h1'
  rw [h1']
  simp [h1]
open Classical in
theorem vW7 {r : am7} (hc : pw7 r.commits) (hl : r.commits.length ≤ 1048576) {k : Nat} (hk : k < r.commits.length) {out : List Int} (ho : ∀ u ∈ out, ∃ j : Nat, u = (j : Int) ∧ j < r.commits.length) (hlen : out.length ≤ 1048576) : q27 out r (k : Int) = some (decide (∃ j : Nat, (j : Int) ∈ out ∧ Anc r.commits j k)) := by
 have key0 : q17 out r (k : Int) = some (aK7 (fun u => decide (Anc r.commits u.toNat k)) out 0) := by
  unfold q17
  rw [if_pos (aa7 hlen)]
  exact mT7 (gl := fK7 r (k : Int)) (p := fun u => decide (Anc r.commits u.toNat k)) (ok := fun u => ∃ j : Nat, u = (j : Int) ∧ j < r.commits.length) (fun _ => rfl) (fun u l i hu => by
   obtain ⟨j, rfl, hj⟩ := hu
   simp only [fK7, uo7, rQ7 hc hl hj, Option.bind_some, ag7, e67 hk, Int.toNat_natCast]) out 0 ho
 unfold q27
 rw [key0]
 ·simp only [Option.bind_some, Option.some.injEq]
  have key : ∀ (l : List Int) (i : Nat), (∀ u ∈ l, ∃ j : Nat, u = (j : Int) ∧ j < r.commits.length) → (aK7 (fun u => decide (Anc r.commits u.toNat k)) l i ≥ 0 ↔ ∃ j : Nat, (j : Int) ∈ l ∧ Anc r.commits j k) := fun l => by
   induction l with
   | nil => intro i _; simp [aK7]
   | cons u l ih =>
    intro i hl
    obtain ⟨j, rfl, hj⟩ := hl u (by simp)
    simp only [aK7, Int.toNat_natCast]
    by_cases hp : Anc r.commits j k
    ·rw [if_pos (by simpa using hp)]
     exact ⟨fun _ => ⟨j, by simp, hp⟩, fun _ => by omega⟩
    ·rw [if_neg (by simpa using hp), ih (i + 1) fun u hu => hl u (by simp [hu])]
     constructor
     ·rintro ⟨j', h1, h2⟩
      exact ⟨j', by simp [h1], h2⟩
     ·rintro ⟨j', h1, h2⟩
      rcases List.mem_cons.1 h1 with h1 | h1
      ·have : j' = j := by omega
       subst this
       exact absurd h2 hp
      ·exact ⟨j', h1, h2⟩
  exact decide_eq_decide.2 (key out 0 ho)
open Classical in
theorem f37 {r : am7} {a b : Nat} (hc : pw7 r.commits) (hl : r.commits.length ≤ 1048576) : ∀ (k n : Nat) (out : List Int), k < n → k ≤ r.commits.length → out.length + k ≤ 1048576 → (∀ u, u ∈ out ↔ ∃ j : Nat, u = (j : Int) ∧ k ≤ j ∧ mD7 r.commits a b j ∧ j < r.commits.length) → iw7 (kL7 r.commits [a]) (kL7 r.commits [b]) r n out ((k : Int) - 1) = some (out ++ gl7 (fun k => decide (mD7 r.commits a b k)) k)
 | _, 0, _, h, _, _, _ => by omega
 | 0, n + 1, out, _, _, _, _ => by
  simp only [gl7, List.append_nil]
  rfl
 | k + 1, n + 1, out, hn, hk, ho, hi => by
  have e1 : (((k + 1 : Nat) : Int) - 1) = (k : Int) := by omega
  have hw : IntKind.i64.wrap ((k : Int) - 1) = (k : Int) - 1 := aP7 (by omega) (by omega)
  have hge : decide ((k : Int) ≥ 0) = true := decide_eq_true (by omega)
  have skip : ¬ mD7 r.commits a b k → iw7 (kL7 r.commits [a]) (kL7 r.commits [b]) r n out ((k : Int) - 1) = some (out ++ gl7 (fun k => decide (mD7 r.commits a b k)) (k + 1)) := fun hnb => by
   rw [f37 hc hl k n out (by omega) (by omega) (by omega) fun u => ?_]
   ·simp [gl7, hnb]
   ·rw [hi u]
    constructor
    ·rintro ⟨j, h1, h2, h3⟩
     exact ⟨j, h1, by omega, h3⟩
    ·rintro ⟨j, h1, h2, h3⟩
     rcases Nat.eq_or_lt_of_le h2 with rfl | h2
     ·exact absurd h3.1 hnb
     ·exact ⟨j, h1, h2, h3⟩
  have take : mD7 r.commits a b k → iw7 (kL7 r.commits [a]) (kL7 r.commits [b]) r n (out ++ [(k : Int)]) ((k : Int) - 1) = some (out ++ gl7 (fun k => decide (mD7 r.commits a b k)) (k + 1)) := fun hb => by
   rw [f37 hc hl k n _ (by omega) (by omega) (by simp; omega) fun u => ?_]
   ·simp [gl7, hb]
   ·rw [List.mem_append, hi u, List.mem_singleton]
    constructor
    ·rintro (⟨j, h1, h2, h3⟩ | rfl)
     ·exact ⟨j, h1, by omega, h3⟩
     ·exact ⟨k, rfl, Nat.le_refl _, hb, by omega⟩
    ·rintro ⟨j, h1, h2, h3⟩
     rcases Nat.eq_or_lt_of_le h2 with rfl | h2
     ·exact .inr h1
     ·exact .inl ⟨j, h1, h2, h3⟩
  rw [e1]
  simp only [iw7, hge, if_true, hw, ag7, e67 (show k < r.commits.length by omega), Option.bind_some]
  by_cases h1 : Anc r.commits a k
  ·by_cases h3 : Anc r.commits b k
   ·have hcom : Com r.commits a b k := ⟨h1, h3⟩
    rw [vW7 hc hl (by omega) (fun u hu => by
     obtain ⟨j, h4, _, _, h5⟩ := (hi u).1 hu
     exact ⟨j, h4, h5⟩) (by omega)]
    have hct : (∃ j : Nat, (j : Int) ∈ out ∧ Anc r.commits j k) ↔ ¬ mD7 r.commits a b k := by
     rw [← uB7 hc hcom]
     constructor
     ·rintro ⟨j, h4, h5⟩
      obtain ⟨j', h6, h7, h8, h9⟩ := (hi _).1 h4
      have : j = j' := by omega
      subst this
      exact ⟨j, by omega, h8, h5⟩
     ·rintro ⟨j, h4, h5, h6⟩
      refine ⟨j, (hi _).2 ⟨j, rfl, by omega, h5, ?_⟩, h6⟩
      rcases h6.last with rfl | ⟨c, x, u, h7, h8, _⟩
      ·omega
      ·rcases Nat.lt_or_ge j r.commits.length with h | h
       ·exact h
       ·exfalso
        have : ∀ p q, Anc r.commits p q → r.commits.length ≤ p → q = p := fun p q hpq hp => by
         induction hpq with
         | refl => rfl
         | up ha hx hu ih =>
          have := gC7 hx
          omega
        have := this j k h6 h
        omega
    simp only [h1, h3, decide_true, Bool.not_true, Option.bind_some]
    rw [if_neg (by decide), if_neg (by decide)]
    by_cases hb : mD7 r.commits a b k
    ·have hf : decide (∃ j : Nat, (j : Int) ∈ out ∧ Anc r.commits j k) = false := decide_eq_false fun h => hct.1 h hb
     rw [hf]
     simp only [Bool.not_false, if_true]
     rw [if_pos (aa7 (by simp; omega))]
     exact take hb
    ·have hf : decide (∃ j : Nat, (j : Int) ∈ out ∧ Anc r.commits j k) = true := decide_eq_true (hct.2 hb)
     rw [hf]
     simp only [Bool.not_true]
     rw [if_neg (by decide)]
     exact skip hb
   ·simp only [h1, h3, decide_true, decide_false, Bool.not_true, Bool.not_false]
    rw [if_neg (by decide), if_pos trivial]
    exact skip fun h => h3 h.1.2
  ·simp only [h1, decide_false, Bool.not_false, if_true]
   exact skip fun h => h1 h.1.1
theorem s87 {r : am7} {a b : Int} (hw : a37 r ≤ 1048576) : q37 r a b = some (if (inR r a && inR r b) = true then oa7 r.commits a.toNat b.toNat else []) := by
 have hla : r.commits.length ≤ 1048576 := by unfold a37 wL at hw; omega
 unfold q37
 rw [kO7 hw, mc7 hla, mc7 hla]
 by_cases h1 : inR r a = true
 ·by_cases h2 : inR r b = true
  ·obtain ⟨hr, i, rfl, hi⟩ := kf7 h1
   obtain ⟨_, j, rfl, hj⟩ := kf7 h2
   have hc := dr7 hr
   have hl := (fY7 hr).1.2
   have hrd : aT7 = 4194303 + 1 := rfl
   rw [h1, h2, hr]
   simp only [Option.bind_some, Bool.not_true, rQ7 hc hla hi, rQ7 hc hla hj, uz7]
   have e1 : (decide ((0 : Int) ≤ (i : Int)) && decide ((i : Int) < (r.commits.length : Int))) = true := by simp; omega
   have e2 : (decide ((0 : Int) ≤ (j : Int)) && decide ((j : Int) < (r.commits.length : Int))) = true := by simp; omega
   rw [e1, e2]
   simp only [Bool.not_true, Bool.and_true, if_true]
   rw [if_neg (by decide), if_neg (by decide), if_neg (by decide), aP7 (by omega) (by omega), f37 hc hla r.commits.length aT7 [] (by rw [hrd]; omega) (Nat.le_refl _) (by simp; omega) (fun u => ?_)]
   ·rfl
   ·constructor
    ·intro h; cases h
    ·rintro ⟨j, _, h3, _, h4⟩
     omega
  ·rw [h1]
   unfold inR at h1 h2
   simp only [Bool.and_eq_true] at h1
   simp only [h1.1, h1.2, Bool.true_and, Bool.not_eq_true] at h2
   simp only [h1.1, h2, inR]
   simp only [h1.2]
   simp
 ·unfold inR at h1
  by_cases hr : bp7 r = true
  ·simp only [hr, Bool.true_and, Bool.not_eq_true] at h1
   simp [hr, h1, inR]
  ·simp [hr, inR]
noncomputable def cR7 (r : am7) (a b : Int) : Int := ((if (inR r a && inR r b) = true then oa7 r.commits a.toNat b.toNat else []).head?).getD (-1)
theorem vX7 {r : am7} {a b : Int} (hw : a37 r ≤ 1048576) : qT7 r a b = some (cR7 r a b) := by
 unfold qT7 cR7
 rw [s77 hw]
 simp only [Option.bind_some]
 generalize (if (inR r a && inR r b) = true then oa7 r.commits a.toNat b.toNat else []) = l
 cases l with
 | nil => rfl
 | cons x l =>
  rw [if_neg (by simp; omega)]
  rfl
theorem vY7 {r : am7} {a b : Int} (hw : a37 r ≤ 1048576) : rf7 r a b = some (cR7 r a b) := by
 unfold rf7 cR7
 rw [s87 hw]
 simp only [Option.bind_some]
 generalize (if (inR r a && inR r b) = true then oa7 r.commits a.toNat b.toNat else []) = l
 cases l with
 | nil => rfl
 | cons x l =>
  rw [if_neg (by simp; omega)]
  rfl
def c1 {α : Type} (_ : α) : Nat := 1
def c2 {α : Type} (_ : α) : Nat := 2
theorem rR7 {α : Type} {p : α → Bool} : ∀ {l : List α} {k : Nat}, aK7 p l k = -1 ∨ ∃ j x, aK7 p l k = ((k + j : Nat) : Int) ∧ l[j]? = some x ∧ p x = true
 | [], k => .inl rfl
 | x :: l, k => by
  simp only [aK7]
  by_cases h : p x = true
  ·rw [if_pos h]
   exact .inr ⟨0, x, rfl, rfl, h⟩
  ·rw [if_neg h]
   rcases rR7 (p := p) (l := l) (k := k + 1) with h1 | ⟨j, y, h1, h2, h3⟩
   ·exact .inl h1
   ·exact .inr ⟨j + 1, y, by rw [h1]; congr 1; omega, by simpa using h2, h3⟩
theorem gE7 {r : am7} (hr : bp7 r = true) (n : Str) : aV7 r.heads n = -1 ∨ ∃ (k a : Nat) (h : Head), aV7 r.heads n = (k : Int) ∧ r.heads[k]? = some h ∧ h.name = n ∧ h.at_ = (a : Int) ∧ a < r.commits.length := by
 rcases rR7 (p := fun x : Head => decide (x.name = n)) (l := r.heads) (k := 0) with h | ⟨j, x, h1, h2, h3⟩
 ·exact .inl h
 ·refine .inr ⟨j, x.at_.toNat, x, by unfold aV7; rw [h1]; simp, h2, by simpa using h3, ?_⟩
  unfold bp7 at hr
  simp only [Bool.and_eq_true] at hr
  have := cf7 hr.2.2.2.2.2 j x h2
  simp only [Bool.and_eq_true, decide_eq_true_eq] at this
  omega
def dY7 (r : am7) (n : Str) : Int := if bp7 r = true then (match idx r.heads (aV7 r.heads n) with | some h => h.at_ | none => -1) else -1
theorem rS7 (r : am7) (n : Str) : (dY7 r n = -1 ∧ (bp7 r = true → aV7 r.heads n = -1)) ∨ ∃ (k a : Nat) (h : Head), bp7 r = true ∧ aV7 r.heads n = (k : Int) ∧ r.heads[k]? = some h ∧ h.name = n ∧ h.at_ = (a : Int) ∧ a < r.commits.length ∧ dY7 r n = (a : Int) := by
 by_cases hr : bp7 r = true
 ·rcases gE7 hr n with h | ⟨k, a, h, h1, h2, h3, h4, h5⟩
  ·refine .inl ⟨?_, fun _ => h⟩
   unfold dY7
   rw [if_pos hr, h]
   rfl
  ·refine .inr ⟨k, a, h, hr, h1, h2, h3, h4, h5, ?_⟩
   unfold dY7
   rw [if_pos hr, h1, ag7, h2]
   exact h4
 ·exact .inl ⟨by unfold dY7; rw [if_neg hr], fun h => absurd h hr⟩
theorem iM7 {α : Type} {g : α → Option α} {gl : List α → Nat → List α → Option (List α)} (h0 : ∀ k v, gl [] k v = some v) (h1 : ∀ x l k v, gl (x :: l) k v = (g x).bind fun y => if aE7 (v ++ [y]).length = true then gl l (k + 1) (v ++ [y]) else none) : ∀ (l : List α) (k : Nat) (v : List α), (∀ x ∈ l, g x = some x) → v.length + l.length ≤ 1048576 → gl l k v = some (v ++ l)
 | [], k, v, _, _ => by rw [h0]; simp
 | x :: l, k, v, hx, hl => by
  simp only [List.length_cons] at hl
  rw [h1, hx x (by simp)]
  simp only [Option.bind_some]
  rw [if_pos (aa7 (by simp; omega)), iM7 h0 h1 l (k + 1) _ (fun y hy => hx y (by simp [hy])) (by simp; omega)]
  simp
theorem kP7 {f : Feat} (h : aZ7 f ≤ 1048576) : hj7 f = some f := by
 unfold aZ7 hg7 wL at h
 unfold hj7 lI7
 rw [if_pos (aa7 (by simp; omega))]
 simp only [Option.bind_some]
 rw [if_pos (aa7 (by simp; omega))]
 rfl
theorem pj7 {fs : List Feat} (h : wL aZ7 fs ≤ 1048576) : nK7 fs = some fs := by
 have hl : fs.length ≤ 1048576 := by unfold wL at h; omega
 unfold nK7
 rw [if_pos (aa7 hl), iM7 (gl := gT7) (fun _ _ => rfl) (fun _ _ _ _ => rfl) fs 0 [] (fun x hx => kP7 (by have := bA7 (w := aZ7) hx; unfold wL at h; omega)) (by simpa using hl)]
 rfl
theorem yv7 {c : Commit} (h : ay7 c ≤ 1048576) : j17 c = some c := by
 unfold ay7 at h
 unfold j17
 rw [if_pos (aa7 (by unfold wL at h; simp; omega)), pj7 (by omega)]
 rfl
theorem pk7 {r : am7} (h : a37 r ≤ 1048576) : lM7 r = some r := by
 unfold a37 at h
 have hl : r.commits.length ≤ 1048576 := by unfold wL at h; omega
 unfold lM7
 rw [if_pos (aa7 (by unfold wL at h; simp; omega)), if_pos (aa7 hl), iM7 (gl := gU7) (fun _ _ => rfl) (fun _ _ _ _ => rfl) r.commits 0 [] (fun x hx => yv7 (by have := bA7 (w := ay7) hx; unfold wL at h; omega)) (by simpa using hl)]
 rfl
theorem f47 {f : Feat} (h : aZ7 f ≤ 1048576) : j67 f = some f := by
 unfold aZ7 hg7 wL at h
 unfold j67 lQ7
 rw [if_pos (aa7 (by simp; omega))]
 simp only [Option.bind_some]
 rw [if_pos (aa7 (by simp; omega))]
 rfl
theorem rT7 {fs : List Feat} (h : wL aZ7 fs ≤ 1048576) : q07 fs = some fs := by
 have hl : fs.length ≤ 1048576 := by unfold wL at h; omega
 unfold q07
 rw [if_pos (aa7 hl), iM7 (gl := gV7) (fun _ _ => rfl) (fun _ _ _ _ => rfl) fs 0 [] (fun x hx => f47 (by have := bA7 (w := aZ7) hx; unfold wL at h; omega)) (by simpa using hl)]
 rfl
theorem iN7 {c : Commit} (h : ay7 c ≤ 1048576) : nU7 c = some c := by
 unfold ay7 at h
 unfold nU7
 rw [if_pos (aa7 (by unfold wL at h; simp; omega)), rT7 (by omega)]
 rfl
theorem mg7 {r : am7} (h : a37 r ≤ 1048576) : nZ7 r = some r := by
 unfold a37 at h
 have hl : r.commits.length ≤ 1048576 := by unfold wL at h; omega
 unfold nZ7
 rw [if_pos (aa7 (by unfold wL at h; simp; omega)), if_pos (aa7 hl), iM7 (gl := gX7) (fun _ _ => rfl) (fun _ _ _ _ => rfl) r.commits 0 [] (fun x hx => iN7 (by have := bA7 (w := ay7) hx; unfold wL at h; omega)) (by simpa using hl)]
 rfl
def Q27 : am7 := ⟨[], []⟩
def eM7 (r : am7) (n f : Str) : am7 × Int :=
 if (bp7 r && bb7 n) = true then
  (if aV7 r.heads f < 0 then (r, 1) else if 0 ≤ aV7 r.heads n ∨ r.heads.length = 4 then (r, 2) else
   match idx r.heads (aV7 r.heads f) with
   | some h => (⟨r.commits, r.heads ++ [⟨n, h.at_⟩]⟩, 0)
   | none => (Q27, 9))
 else (Q27, 4)
theorem rU7 {r : am7} {n f : Str} (hw : a37 r ≤ 1048576) (hn : n.size ≤ 1048576) : n87 r n f = some (eM7 r n f) := by
 have hh : r.heads.length ≤ 1048576 := by unfold a37 wL at hw; omega
 unfold n87 eM7
 rw [kO7 hw, fZ7 hn, mg7 hw, db7 hh, db7 hh]
 simp only [Option.bind_some]
 by_cases hr : bp7 r = true
 ·by_cases hx : bb7 n = true
  ·have h4 : r.heads.length ≤ 4 := (fY7 hr).2.2
   rw [hr, hx]
   simp only [Bool.not_true, Bool.and_self, if_true]
   rw [if_neg (by decide), if_neg (by decide)]
   rcases gE7 hr f with h | ⟨k, a, h, h1, h2, _⟩
   ·rw [h]
    rfl
   ·rw [h1]
    have hk : ¬ ((k : Int) < 0) := by omega
    by_cases h5 : 0 ≤ aV7 r.heads n
    ·simp [hk, h5]
    ·by_cases h6 : r.heads.length = 4
     ·simp [hk, h5, h6]
     ·have h6' : ¬ ((r.heads.length : Int) = 4) := by omega
      have h6'' : ¬ ((4 : Int) ≤ (r.heads.length : Int)) := by omega
      have hfit : aE7 (r.heads.length + 1) = true := aa7 (by omega)
      simp [hk, h5, h6, h6', h6'', ag7, h2, hfit]
  ·simp only [Bool.not_eq_true] at hx
   rw [hr, hx]
   rfl
 ·simp only [Bool.not_eq_true] at hr
  rw [hr]
  rfl
theorem rV7 {r : am7} {n f : Str} (hw : a37 r ≤ 1048576) (hn : n.size ≤ 1048576) : rq7 r n f = some (eM7 r n f) := by
 have hh : r.heads.length ≤ 1048576 := by unfold a37 wL at hw; omega
 unfold rq7 eM7
 rw [ph7 hw, eB7 hn, pk7 hw, g07 hh, g07 hh]
 simp only [Option.bind_some]
 by_cases hr : bp7 r = true
 ·by_cases hx : bb7 n = true
  ·have h4 : r.heads.length ≤ 4 := (fY7 hr).2.2
   rw [hr, hx]
   simp only [Bool.not_true, Bool.and_self, if_true]
   rw [if_neg (by decide), if_neg (by decide)]
   rcases gE7 hr f with h | ⟨k, a, h, h1, h2, _⟩
   ·rw [h]
    rfl
   ·rw [h1]
    have hk : ¬ ((k : Int) < 0) := by omega
    by_cases h5 : 0 ≤ aV7 r.heads n
    ·simp [hk, h5]
    ·by_cases h6 : r.heads.length = 4
     ·simp [hk, h5, h6]
     ·have h6' : ¬ ((r.heads.length : Int) = 4) := by omega
      have h6'' : ¬ ((4 : Int) ≤ (r.heads.length : Int)) := by omega
      have hfit : aE7 (r.heads.length + 1) = true := aa7 (by omega)
      simp [hk, h5, h6, h6', h6'', ag7, h2, hfit]
  ·simp only [Bool.not_eq_true] at hx
   rw [hr, hx]
   rfl
 ·simp only [Bool.not_eq_true] at hr
  rw [hr]
  rfl
def cnt (m : List Bool) : Nat → Nat
 | 0 => 0
 | k + 1 => cnt m k + (if ge7 m k = true then 1 else 0)
def A47 (m : List Bool) (c : Commit) : Commit := ⟨c.up.map fun u => (cnt m u.toNat : Int), c.sheet, c.note⟩
def gf7 (m : List Bool) : List Commit → Nat → List Commit
 | [], _ => []
 | x :: l, k => if ge7 m k = true then A47 m x :: gf7 m l (k + 1) else gf7 m l (k + 1)
def eD7 (hs : List Head) (k : Nat) (h : Head) (v : Int) : List Head := hs.set k ⟨h.name, v⟩
def Qi7 (r : am7) (n : Str) (s : List Feat) (t : Str) : am7 × Int :=
 if (bp7 r && (a97 s && bb7 t)) = true then
  (match idx r.heads (aV7 r.heads n) with
  | none => (r, 1)
  | some h => match idx r.commits h.at_ with
   | none => (r, 1)
   | some x => if x.sheet = s then (r, 3) else
    if dV7 r.commits ⟨[h.at_], s, t⟩ < 0 then
     (if r.commits.length = 14 then (r, 2) else (⟨r.commits ++ [⟨[h.at_], s, t⟩], eD7 r.heads (aV7 r.heads n).toNat h r.commits.length⟩, 0))
    else (⟨r.commits, eD7 r.heads (aV7 r.heads n).toNat h (dV7 r.commits ⟨[h.at_], s, t⟩)⟩, 0))
 else (⟨[], []⟩, 4)
theorem pl7 {α : Type} {w : α → Nat} : ∀ (xs : List α) (k : Nat) (x y : α), xs[k]? = some x → w y ≤ w x → hW7 w (xs.set k y) ≤ hW7 w xs
 | [], k, x, y, h, _ => by simp at h
 | z :: xs, 0, x, y, h, hw => by
  simp only [List.getElem?_cons_zero, Option.some.injEq] at h
  subst h
  simp only [List.set_cons_zero, hW7]
  omega
 | z :: xs, k + 1, x, y, h, hw => by
  have := pl7 xs k x y (by simpa using h) hw
  simp only [List.set_cons_succ, hW7]
  omega
theorem uG7 {hs : List Head} {n : Str} {h : Head} {v : Int} (hh : idx hs (aV7 hs n) = some h) : wL gi7 (eD7 hs (aV7 hs n).toNat h v) ≤ wL gi7 hs := by
 have h1 := (aJ7 hh).2
 have := pl7 (w := gi7) hs _ h ⟨h.name, v⟩ h1 (Nat.le_refl _)
 unfold wL eD7
 simp only [List.length_set]
 omega
theorem iO7 {α : Type} {w : α → Nat} : ∀ (a : List α) (x : α), hW7 w (a ++ [x]) = hW7 w a + w x
 | [], x => by simp [hW7]
 | y :: a, x => by simp only [List.cons_append, hW7, iO7 a x]; omega
theorem Mi7 {r : am7} {n t : Str} {s : List Feat} : a37 (Qi7 r n s t).1 ≤ a37 r + (2 + (wL aZ7 s + t.size)) := by
 unfold Qi7
 split
 ·split
  ·simp only; omega
  ·rename_i h hh
   split
   ·simp only; omega
   ·split
    ·simp only; omega
    ·split
     ·split
      ·simp only; omega
      ·have := uG7 (v := (r.commits.length : Int)) hh
       simp only [a37]
       have e : wL ay7 (r.commits ++ [⟨[h.at_], s, t⟩]) = wL ay7 r.commits + (1 + ay7 ⟨[h.at_], s, t⟩) := by
        unfold wL
        rw [iO7]
        simp
        omega
       have e2 : ay7 ⟨[h.at_], s, t⟩ = 1 + (wL aZ7 s + (t.size + 0)) := by unfold ay7; simp [wL, hW7, w0]
       omega
     ·have := uG7 (v := dV7 r.commits ⟨[h.at_], s, t⟩) hh
      simp only [a37]
      omega
 ·have : a37 ⟨[], []⟩ = 0 := rfl
  simp only [this]
  omega
theorem Fj7 {a b : Int} (h1 : 0 ≤ a) (h2 : a < 4294967296) (h3 : 0 ≤ b) (h4 : b < 4294967296) : 0 ≤ FH7 a b := by
 unfold FH7
 have e : ((BitVec.ofInt 64 a ^^^ BitVec.ofInt 64 b).toNat) < 2 ^ 32 := by
  rw [BitVec.toNat_xor, BitVec.toNat_ofInt, BitVec.toNat_ofInt]
  apply Nat.xor_lt_two_pow
  ·have : (a % ((2 ^ 64 : Nat) : Int)) = a := Int.emod_eq_of_lt h1 (by omega)
   rw [this]
   omega
  ·have : (b % ((2 ^ 64 : Nat) : Int)) = b := Int.emod_eq_of_lt h3 (by omega)
   rw [this]
   omega
 rw [aP7 (by omega) (by omega)]
 omega
theorem pm7 {a b : Int} (h : 0 < b) (ha : 0 ≤ a) : ∃ v, zg7 a b = some v ∧ 0 ≤ v ∧ v < b := by
 unfold zg7
 rw [if_pos (by omega)]
 exact ⟨_, rfl, Int.tmod_nonneg b ha, Int.tmod_lt_of_pos a h⟩
theorem Qj7 {b : List UInt8} {i : Int} (h0 : 0 ≤ i) (h : i < b.length) : ∃ x : UInt8, idx b i = some x := by
 rw [cm7 h0]
 exact gY7 (by omega)
theorem yw7 {b : List UInt8} {p n : Int} (hb : b.length ≤ 2000) (h0 : 0 ≤ p) (hp : p ≤ 1000000) : ∃ v, bJ7 ⟨b, p⟩ n = some (v, p + 1) ∧ 0 ≤ v ∧ (1 ≤ n → v < n) := by
 unfold bJ7
 simp only
 have e1 : IntKind.i64.wrap (p + 1) = p + 1 := aP7 (by omega) (by omega)
 have e2 : IntKind.i64.wrap (p + 1 - 1) = p := by rw [aP7 (by omega) (by omega)]; omega
 rw [e1, e2]
 by_cases hn : n < 1
 ·rw [if_pos (by simpa using hn)]
  exact ⟨0, rfl, by omega, by omega⟩
 rw [if_neg (by simpa using hn)]
 by_cases hz : b.length = 0
 ·rw [if_pos (by simp [hz])]
  exact ⟨0, rfl, by omega, by omega⟩
 rw [if_neg (by simpa using hz)]
 have hx8 : ∀ x : UInt8, (x.toNat : Int) < 256 := fun x => by have := x.toNat_lt; omega
 by_cases hl : p < b.length
 ·rw [if_pos (by simpa using hl)]
  obtain ⟨x, hx⟩ := Qj7 h0 hl
  have := hx8 x
  rw [hx, Option.bind_some, aP7 (by omega) (by omega)]
  obtain ⟨v, hv, h1, h2⟩ := pm7 (a := (x.toNat : Int)) (b := n) (by omega) (by omega)
  rw [hv]
  exact ⟨v, rfl, h1, fun _ => h2⟩
 rw [if_neg (by simpa using hl)]
 obtain ⟨i, hi, i1, i2⟩ := pm7 (a := p) (b := b.length) (by omega) h0
 obtain ⟨x, hx⟩ := Qj7 i1 i2
 have e3 : IntKind.i64.wrap (IntKind.i64.wrap (p * 7) + 3) = p * 7 + 3 := by rw [aP7 (n := p * 7) (by omega) (by omega), aP7 (by omega) (by omega)]
 obtain ⟨j, hj, j1, j2⟩ := pm7 (a := p * 7 + 3) (b := b.length) (by omega) (by omega)
 obtain ⟨y, hy⟩ := Qj7 j1 j2
 have q1 : 0 ≤ p.tdiv b.length := Int.tdiv_nonneg h0 (by omega)
 have q2 : p.tdiv b.length ≤ p := Int.tdiv_le_self _ h0
 have hq : CX7 p b.length = some (p.tdiv b.length) := by
  unfold CX7
  rw [if_pos (by omega), aP7 (by omega) (by omega)]
 rw [hi, Option.bind_some, hx, Option.bind_some, e3, hj, Option.bind_some, hy, Option.bind_some, hq, Option.bind_some]
 have ux := hx8 x
 have uy := hx8 y
 have wx : 0 ≤ (x.toNat : Int) := by omega
 have wy : 0 ≤ (y.toNat : Int) := by omega
 generalize (x.toNat : Int) = X at ux wx ⊢
 generalize (y.toNat : Int) = Y at uy wy ⊢
 generalize p.tdiv b.length = T at q1 q2 ⊢
 rw [aP7 (n := X) (by omega) (by omega), aP7 (n := Y) (by omega) (by omega), aP7 (n := X * 131) (by omega) (by omega), aP7 (n := Y * 1117) (by omega) (by omega), aP7 (n := X * 131 + Y * 1117) (by omega) (by omega),
  aP7 (n := p * 29) (by omega) (by omega), aP7 (n := X * 131 + Y * 1117 + p * 29) (by omega) (by omega), aP7 (n := T * 53) (by omega) (by omega), aP7 (n := X * 131 + Y * 1117 + p * 29 + T * 53) (by omega) (by omega)]
 have s0 : 0 ≤ X * 131 + Y * 1117 + p * 29 + T * 53 := by omega
 have s1 : X * 131 + Y * 1117 + p * 29 + T * 53 < 4294967296 := by omega
 generalize X * 131 + Y * 1117 + p * 29 + T * 53 = S at s0 s1 ⊢
 have t0 : 0 ≤ S.tdiv 64 := Int.tdiv_nonneg s0 (by omega)
 have t1 : S.tdiv 64 ≤ S := Int.tdiv_le_self _ s0
 rw [aP7 (by omega) (by omega)]
 obtain ⟨v, hv, h1, h2⟩ := pm7 (a := FH7 S (S.tdiv 64)) (b := n) (by omega) (Fj7 s0 s1 t0 (by omega))
 rw [hv]
 exact ⟨v, rfl, h1, fun _ => h2⟩
def Drw {α : Type} (g : Rd → Option (α × Int)) (k : Nat) (P : α → Prop) : Prop := ∀ (b : List UInt8) (p : Int), b.length ≤ 2000 → 0 ≤ p → p + k ≤ 100000 → ∃ a p', g ⟨b, p⟩ = some (a, p') ∧ p ≤ p' ∧ p' ≤ p + k ∧ P a
theorem bN7 {n : Int} : Drw (fun r => bJ7 r n) 1 fun v => 0 ≤ v ∧ (1 ≤ n → v < n) := fun b p hb h0 hp => by
 obtain ⟨v, hv, h⟩ := yw7 (n := n) hb h0 (by omega)
 exact ⟨v, p + 1, hv, by omega, by omega, h⟩
theorem rW7 {l : List Str} (hl : l ≠ []) : Drw (fun r => ga7 r l) 1 fun v => v ∈ l := fun b p hb h0 hp => by
 obtain ⟨v, hv, h1, h2⟩ := yw7 (n := (l.length : Int)) hb h0 (by omega)
 have hn : 0 < l.length := List.length_pos_iff.2 hl
 have h3 := h2 (by omega)
 have hx : idx l v = some l[v.toNat] := by rw [cm7 h1]; exact List.getElem?_eq_getElem (by omega)
 exact ⟨l[v.toNat], p + 1, by simp only [ga7, hv, Option.bind_some, hx], by omega, by omega, List.getElem_mem _⟩
theorem rX7 {l : List Int} (hl : l ≠ []) : Drw (fun r => ix7 r l) 1 fun v => v ∈ l := fun b p hb h0 hp => by
 obtain ⟨v, hv, h1, h2⟩ := yw7 (n := (l.length : Int)) hb h0 (by omega)
 have hn : 0 < l.length := List.length_pos_iff.2 hl
 have h3 := h2 (by omega)
 have hx : idx l v = some l[v.toNat] := by rw [cm7 h1]; exact List.getElem?_eq_getElem (by omega)
 exact ⟨l[v.toNat], p + 1, by simp only [ix7, hv, Option.bind_some, hx], by omega, by omega, List.getElem_mem _⟩
theorem s97 : Drw ho7 2 fun _ => True := fun b p hb h0 hp => by
 obtain ⟨x, p1, h1, a1, b1, _⟩ := bN7 (n := 4) b p hb h0 (by omega)
 obtain ⟨y, p2, h2, a2, b2, _⟩ := rX7 (l := [0, 1, 2, 5]) (by simp) b p1 hb (by omega) (by omega)
 refine ⟨⟨x, y⟩, p2, ?_, by omega, by omega, trivial⟩
 unfold ho7
 simp only at h1 h2
 simp only [h1, Option.bind_some, h2]
theorem Fk7 (a c : Int) : ∃ v, rl7 a c = some v := by
 unfold rl7
 split <;> exact ⟨_, rfl⟩
theorem Mj7 {p : Bool} {A B : Option Bool} (ha : ∃ q, A = some q) (hb : ∃ q, B = some q) : ∃ q, (if p = true then A else B) = some q := by
 split
 ·exact ha
 ·exact hb
theorem gF7 (q : Int) (a : Rd) (x : Int × Int) (hb : a.b.length ≤ 2000) : ∀ (m n : Nat) (i p : Int) (pts : List Pt), m < n → 0 ≤ i → i + m = 12 → (pts.length : Int) ≤ i → 0 ≤ p → p + 2 * m ≤ 100000 → ∃ p' pts', dF7 q a x n i p pts = some (p', pts') ∧ p ≤ p' ∧ p' ≤ p + 2 * m ∧ pts'.length ≤ 12
 | _, 0, _, _, _, h, _, _, _, _, _ => by omega
 | 0, n + 1, i, p, pts, h, h0, hi, hl, hp, hk => by
  refine ⟨p, pts, ?_, by omega, by omega, by omega⟩
  unfold dF7
  rw [if_neg (by simp; omega)]
 | m + 1, n + 1, i, p, pts, h, h0, hi, hl, hp, hk => by
  unfold dF7
  rw [if_pos (by simp; omega)]
  obtain ⟨w, hw⟩ := Fk7 q 6
  rw [hw, Option.bind_some]
  by_cases hlt : (pts.length : Int) < w
  ·rw [if_pos (by simpa using hlt)]
   obtain ⟨t, p1, h1, a1, b1, _⟩ := s97 a.b p hb hp (by omega)
   rw [h1, Option.bind_some]
   simp only
   have hq : ∃ z, (if ((pts.length : Int) == 0) = true then (some true) else ((idx pts (IntKind.i64.wrap ((pts.length : Int) - 1))).bind fun x130 => if (!((x130.x == t.x) && ((x130.y == t.y) && true))) = true then (if (x.1 != 3) = true then (some true) else ((idx pts 0).bind fun x132 => some (!((x132.x == t.x) && ((x132.y == t.y) && true))))) else (some false))) = some z := by
    by_cases hz : pts.length = 0
    ·exact ⟨true, by rw [if_pos (by simp [hz])]⟩
    ·rw [if_neg (by simpa using hz)]
     have e : IntKind.i64.wrap ((pts.length : Int) - 1) = ((pts.length - 1 : Nat) : Int) := cd7 (by omega) (by omega)
     obtain ⟨y, hy⟩ := gY7 (xs := pts) (i := pts.length - 1) (by omega)
     obtain ⟨z, hz0⟩ := gY7 (xs := pts) (i := 0) (by omega)
     have hz1 : idx pts 0 = some z := by rw [show (0 : Int) = ((0 : Nat) : Int) from rfl, ag7]; exact hz0
     rw [e, ag7, hy, Option.bind_some]
     refine Mj7 (Mj7 ⟨_, rfl⟩ ?_) ⟨_, rfl⟩
     rw [hz1]
     exact ⟨_, rfl⟩
   obtain ⟨z, hz⟩ := hq
   rw [hz, Option.bind_some, aP7 (n := i + 1) (by omega) (by omega)]
   by_cases hzz : z = true
   ·rw [if_pos hzz, if_pos (aa7 (by simp; omega))]
    obtain ⟨p', pts', g1, g2, g3, g4⟩ := gF7 q a x hb m n (i + 1) p1 (pts ++ [t]) (by omega) (by omega) (by omega) (by simp; omega) (by omega) (by omega)
    exact ⟨p', pts', g1, by omega, by omega, g4⟩
   ·rw [if_neg hzz]
    obtain ⟨p', pts', g1, g2, g3, g4⟩ := gF7 q a x hb m n (i + 1) p1 pts (by omega) (by omega) (by omega) (by omega) (by omega) (by omega)
    exact ⟨p', pts', g1, by omega, by omega, g4⟩
  ·rw [if_neg (by simpa using hlt)]
   exact ⟨p, pts, rfl, by omega, by omega, by omega⟩
theorem od7 : Drw n47 30 fun s => 1 ≤ s.pts.length ∧ s.pts.length ≤ 12 := fun b p hb h0 hp => by
 obtain ⟨k, p1, h1, a1, b1, hk⟩ := rX7 (l := [1, 2, 2, 3, 3]) (by simp) b p hb h0 (by omega)
 obtain ⟨w, p2, h2, a2, b2, _⟩ := bN7 (n := 4) b p1 hb (by omega) (by omega)
 unfold n47
 simp only at h1 h2
 simp only [h1, Option.bind_some, h2]
 have hq : ∃ q, (if (k == 1) = true then some 1 else some (IntKind.i64.wrap (k + w)) : Option Int) = some q := by split <;> exact ⟨_, rfl⟩
 obtain ⟨q, hq⟩ := hq
 rw [hq, Option.bind_some]
 obtain ⟨p3, pts, h3, a3, b3, c3⟩ := gF7 q ⟨b, p⟩ (k, p1) hb 12 aT7 0 p2 [] (by decide) (by omega) (by omega) (by simp) (by omega) (by omega)
 rw [h3, Option.bind_some]
 simp only
 rw [iI7 (by simp; omega), Option.bind_some]
 by_cases hs : dq7 ⟨k, pts⟩ = true
 ·rw [hs]
  refine ⟨_, p3, rfl, by omega, by omega, ?_, c3⟩
  simp only [dq7, Bool.and_eq_true] at hs
  have h4 := hs.2.2
  simp only
  by_cases e1 : k = 1
  ·rw [if_pos e1] at h4; have := of_decide_eq_true h4; omega
  ·rw [if_neg e1] at h4
   by_cases e2 : k = 2
   ·rw [if_pos e2] at h4; have := of_decide_eq_true h4; omega
   ·rw [if_neg e2] at h4
    by_cases e3 : k = 3
    ·rw [if_pos e3] at h4
     simp only [Bool.and_eq_true, decide_eq_true_eq] at h4
     omega
    ·rw [if_neg e3] at h4
     cases h4
 ·rw [Bool.not_eq_true] at hs
  rw [hs]
  obtain ⟨t, p4, h4, a4, b4, _⟩ := s97 b p3 hb (by omega) (by omega)
  simp only [Bool.not_false, if_true, h4, Option.bind_some]
  exact ⟨_, p4, rfl, by omega, by omega, by simp, by simp⟩
theorem iP7 {α : Type} {f : α} {c1 c2 : α → Bool} {gl : List α → Nat → Bool → List α → Option (Bool × List α)} (h0 : ∀ k v w, gl [] k v w = some (v, w))
  (h1 : ∀ x l k v w, gl (x :: l) k v w = ((if (!v) = true then (if c1 x = true then (if aE7 (w ++ [f]).length = true then some (true, (w ++ [f])) else none) else (some (v, w))) else (some (v, w)) : Option (Bool × (List α)))).bind fun q => if c2 x = true then (if aE7 (q.2 ++ [x]).length = true then gl l (k + 1) q.1 (q.2 ++ [x]) else none) else gl l (k + 1) q.1 q.2) :
  ∀ (l : List α) (k : Nat) (v : Bool) (w : List α), w.length + l.length + (if v then 0 else 1) ≤ 1000000 → ∃ d out, gl l k v w = some (d, out) ∧ out.length + (if d then 0 else 1) ≤ w.length + l.length + (if v then 0 else 1) ∧ ∀ y ∈ out, y ∈ w ∨ y ∈ l ∨ y = f
 | [], k, v, w, hl => ⟨v, w, h0 k v w, by simp, fun y hy => .inl hy⟩
 | x :: l, k, v, w, hl => by
  simp only [List.length_cons] at hl
  rw [h1]
  have hq : ∃ v2 w2, ((if (!v) = true then (if c1 x = true then (if aE7 (w ++ [f]).length = true then some (true, (w ++ [f])) else none) else (some (v, w))) else (some (v, w)) : Option (Bool × (List α)))) = some (v2, w2) ∧ w2.length + (if v2 then 0 else 1) ≤ w.length + (if v then 0 else 1) ∧ ∀ y ∈ w2, y ∈ w ∨ y = f := by
   cases v
   ·simp only [Bool.not_false, if_true]
    by_cases hc : c1 x = true
    ·rw [if_pos hc, if_pos (aa7 (by simp; omega))]
     exact ⟨true, w ++ [f], rfl, by simp, fun y hy => by simpa using hy⟩
    ·rw [if_neg hc]
     exact ⟨false, w, rfl, by simp, fun y hy => .inl hy⟩
   ·exact ⟨true, w, rfl, by simp, fun y hy => .inl hy⟩
  obtain ⟨v2, w2, e, q1, q2⟩ := hq
  rw [e, Option.bind_some]
  have hw2 : w2.length ≤ w.length + 1 := by
   cases v <;> cases v2 <;> simp at q1 <;> omega
  by_cases hc : c2 x = true
  ·rw [if_pos hc, if_pos (aa7 (by simp; omega))]
   obtain ⟨d, out, g1, g2, g3⟩ := iP7 h0 h1 l (k + 1) v2 (w2 ++ [x]) (by
    simp only [List.length_append, List.length_singleton]
    omega)
   refine ⟨d, out, g1, ?_, fun y hy => ?_⟩
   ·simp only [List.length_append, List.length_cons, List.length_singleton, List.length_nil] at g2 ⊢
    omega
   ·rcases g3 y hy with h | h | h
    ·rcases List.mem_append.1 h with h | h
     ·rcases q2 y h with h | h <;> simp [h]
     ·simp at h; simp [h]
    ·simp [h]
    ·simp [h]
  ·rw [if_neg hc]
   obtain ⟨d, out, g1, g2, g3⟩ := iP7 h0 h1 l (k + 1) v2 w2 (by omega)
   refine ⟨d, out, g1, ?_, fun y hy => ?_⟩
   ·simp only [List.length_cons] at g2 ⊢
    omega
   ·rcases g3 y hy with h | h | h
    ·rcases q2 y h with h | h <;> simp [h]
    ·simp [h]
    ·simp [h]
theorem ta7 {α : Type} {f : α} {xs : List α} {z : Option (Bool × List α)} (hl : xs.length + 1 ≤ 1048576) (h : ∃ d out, z = some (d, out) ∧ out.length + (if d then 0 else 1) ≤ xs.length + 1 ∧ ∀ y ∈ out, y ∈ xs ∨ y = f) :
  ∃ out, (if aE7 xs.length = true then (z.bind fun q => if (!q.1) = true then (if aE7 (q.2 ++ [f]).length = true then some (q.2 ++ [f]) else none) else some q.2) else none) = some out ∧ out.length ≤ xs.length + 1 ∧ ∀ y ∈ out, y ∈ xs ∨ y = f := by
 obtain ⟨d, out, rfl, h1, h2⟩ := h
 rw [if_pos (aa7 (by omega)), Option.bind_some]
 cases d
 ·simp only [Bool.not_false, if_true]
  simp at h1
  rw [if_pos (aa7 (by simp; omega))]
  exact ⟨_, rfl, by simp; omega, fun y hy => by
   rcases List.mem_append.1 hy with h | h
   ·exact h2 y h
   ·simp at h; exact .inr h⟩
 ·simp at h1
  exact ⟨out, rfl, h1, h2⟩
theorem A57 {s : List Feat} {f : Feat} (h : s.length ≤ 1000) : ∃ out, f97 s f = some out ∧ out.length ≤ s.length + 1 ∧ ∀ y ∈ out, y ∈ s ∨ y = f := by
 unfold f97
 refine ta7 (by omega) ?_
 obtain ⟨d, out, h1, h2, h3⟩ := iP7 (gl := ct7 f) (f := f) (c1 := fun x => !slt x.id f.id) (c2 := fun x => !seq x.id f.id) (fun _ _ _ => rfl) (fun _ _ _ _ _ => rfl) s 0 false [] (by simp; omega)
 exact ⟨d, out, h1, by simpa using h2, fun y hy => by simpa using h3 y hy⟩
theorem mh7 {s : List Feat} {f : Feat} (h : s.length ≤ 1000) : ∃ out, n67 s f = some out ∧ out.length ≤ s.length + 1 ∧ ∀ y ∈ out, y ∈ s ∨ y = f := by
 unfold n67
 refine ta7 (by omega) ?_
 obtain ⟨d, out, h1, h2, h3⟩ := iP7 (gl := fP7 f) (f := f) (c1 := fun x => !slt x.id f.id) (c2 := fun x => !seq x.id f.id) (fun _ _ _ => rfl) (fun _ _ _ _ _ => rfl) s 0 false [] (by simp; omega)
 exact ⟨d, out, h1, by simpa using h2, fun y hy => by simpa using h3 y hy⟩
theorem uH7 {s : List Tag} {a b : Str} (h : s.length ≤ 1000) : ∃ out, is7 s a b = some out ∧ out.length ≤ s.length + 1 ∧ ∀ y ∈ out, y ∈ s ∨ y = ⟨a, b⟩ := by
 unfold is7
 refine ta7 (by omega) ?_
 obtain ⟨d, out, h1, h2, h3⟩ := iP7 (gl := cu7 a b) (f := (⟨a, b⟩ : Tag)) (c1 := fun x => !slt x.key a) (c2 := fun x => !seq x.key a) (fun _ _ _ => rfl) (fun _ _ _ _ _ => rfl) s 0 false [] (by simp; omega)
 exact ⟨d, out, h1, by simpa using h2, fun y hy => by simpa using h3 y hy⟩
def bF (k : Nat) (f : Feat) : Prop := (f.id.size ≤ 7 ∧ f.id.size ≠ 2) ∧ f.shape.pts.length ≤ 20 + k ∧ f.tags.length ≤ 20 + k ∧ ∀ t ∈ f.tags, t.key.size ≤ 7 ∧ t.val.size ≤ 7
def bS (k : Nat) (s : List Feat) : Prop := s.length ≤ 20 + k ∧ ∀ f ∈ s, bF k f
theorem Mk7 {k : Nat} {f : Feat} (h : bF k f) : bF (k + 1) f := ⟨h.1, by have := h.2.1; omega, by have := h.2.2.1; omega, h.2.2.2⟩
theorem jz7 {α : Type} {w : α → Nat} {n : Nat} : ∀ {xs : List α}, (∀ x ∈ xs, w x ≤ n) → hW7 w xs ≤ n * xs.length
 | [], h => by simp [hW7]
 | x :: xs, h => by
  have h1 := h x (by simp)
  have h2 := jz7 (xs := xs) (n := n) fun y hy => h y (by simp [hy])
  simp only [hW7, List.length_cons, Nat.mul_add, Nat.mul_one]
  omega
theorem Q37 {k : Nat} {f : Feat} (h : bF k f) (hk : k ≤ 4) : aZ7 f ≤ 400 := by
 obtain ⟨⟨h1, _⟩, h2, h3, h4⟩ := h
 have := jz7 (w := sN7) (n := 14) (xs := f.tags) fun t ht => by have := h4 t ht; unfold sN7; omega
 unfold aZ7 hg7 wL
 rw [qr7]
 omega
theorem Q47 {k : Nat} {s : List Feat} (h : bS k s) (hk : k ≤ 4) : wL aZ7 s ≤ 10000 := by
 have h1 := h.1
 have := jz7 (w := aZ7) (n := 400) (xs := s) fun f hf => Q37 (h.2 f hf) hk
 unfold wL
 omega
theorem tb7 : Drw lV7 1 fun s => s.size ≤ 7 ∧ s.size ≠ 2 := fun b p hb h0 hp => by
 unfold lV7
 obtain ⟨x, p1, h1, a1, b1, hx⟩ := rW7 (l := _) (List.cons_ne_nil _ _) b p hb h0 hp
 simp only at h1
 rw [h1]
 exact ⟨x, p1, rfl, a1, b1, (by decide : ∀ y ∈ _, y.size ≤ 7 ∧ y.size ≠ 2) x hx⟩
theorem uI7 : Drw n27 1 fun s => s.size ≤ 7 := fun b p hb h0 hp => by
 unfold n27
 obtain ⟨x, p1, h1, a1, b1, hx⟩ := rW7 (l := _) (List.cons_ne_nil _ _) b p hb h0 hp
 simp only at h1
 rw [h1]
 exact ⟨x, p1, rfl, a1, b1, (by decide : ∀ y ∈ _, y.size ≤ 7) x hx⟩
theorem uJ7 : Drw n37 1 fun s => s.size ≤ 7 := fun b p hb h0 hp => by
 unfold n37
 obtain ⟨x, p1, h1, a1, b1, hx⟩ := rW7 (l := _) (List.cons_ne_nil _ _) b p hb h0 hp
 simp only at h1
 rw [h1]
 exact ⟨x, p1, rfl, a1, b1, (by decide : ∀ y ∈ _, y.size ≤ 7) x hx⟩
theorem mi7 : Drw lX7 1 fun s => s ∈ [(⟨#[109, 97, 105, 110]⟩ : Str), (⟨#[97, 110, 110]⟩ : Str), (⟨#[98, 111, 98]⟩ : Str)] := fun b p hb h0 hp => by
 unfold lX7
 obtain ⟨x, p1, h1, a1, b1, hx⟩ := rW7 (l := _) (List.cons_ne_nil _ _) b p hb h0 hp
 simp only at h1
 rw [h1]
 exact ⟨x, p1, rfl, a1, b1, hx⟩
abbrev onS : Str := ⟨#[111, 110]⟩
def nt (s : Str) : Prop := s.size ≤ 7 ∧ s ≠ onS
theorem Fl7 {s : Str} (h : (decide (s.size ≤ 7) && !decide (s = onS)) = true) : nt s := by simpa [nt] using h
theorem yx7 : Drw ru7 1 fun s => nt s := fun b p hb h0 hp => by
 unfold ru7
 obtain ⟨x, p1, h1, a1, b1, hx⟩ := rW7 (l := _) (List.cons_ne_nil _ _) b p hb h0 hp
 simp only at h1
 rw [h1]
 refine ⟨x, p1, rfl, a1, b1, Fl7 ?_⟩
 simp only [List.mem_cons, List.not_mem_nil, or_false] at hx
 rcases hx with rfl | rfl | rfl <;> decide
theorem yy7 : Drw rm7 33 fun s => s.pts.length ≤ 13 := fun b p hb h0 hp => by
 obtain ⟨s, p1, h1, a1, b1, hs1, hs2⟩ := od7 b p hb h0 (by omega)
 obtain ⟨k, p2, h2, a2, b2, hk1, hk2⟩ := bN7 (n := (s.pts.length : Int)) b p1 hb (by omega) (by omega)
 obtain ⟨c, p3, h3, a3, b3, _⟩ := bN7 (n := 40) b p2 hb (by omega) (by omega)
 have hk2 := hk2 (by omega)
 unfold rm7
 simp only at h2 h3
 simp only [h1, Option.bind_some, h2, h3]
 obtain ⟨y, hy⟩ := gY7 (xs := s.pts) (i := k.toNat) (by omega)
 have hy' : idx s.pts k = some y := by rw [cm7 hk1]; exact hy
 by_cases c0 : (c == 0) = true
 ·rw [if_pos c0]
  obtain ⟨x, p4, h4, a4, b4, _⟩ := rX7 (l := [0, 4, 1, 2, 3]) (by simp) b p3 hb (by omega) (by omega)
  simp only at h4
  rw [h4]
  exact ⟨_, p4, rfl, by omega, by omega, by simp only; omega⟩
 rw [if_neg c0]
 by_cases c1 : (c == 1) = true
 ·rw [if_pos c1]
  obtain ⟨x, p4, h4, a4, b4, _⟩ := rX7 (l := [1000, 1001, -1001]) (by simp) b p3 hb (by omega) (by omega)
  simp only at h4
  rw [h4, Option.bind_some, hy']
  exact ⟨_, p4, rfl, by omega, by omega, by simp only [List.length_set]; omega⟩
 rw [if_neg c1]
 by_cases c2 : (c == 2) = true
 ·rw [if_pos c2, cd7 (by omega) (by omega), ag7]
  obtain ⟨z, hz⟩ := gY7 (xs := s.pts) (i := s.pts.length - 1) (by omega)
  rw [hz, Option.bind_some, if_pos (aa7 (by simp; omega))]
  exact ⟨_, p3, rfl, by omega, by omega, by simp; omega⟩
 rw [if_neg c2]
 by_cases c3 : (c == 3) = true
 ·rw [if_pos c3]
  unfold slc
  rw [if_pos ⟨by omega, hk1, by omega⟩]
  exact ⟨_, p3, rfl, by omega, by omega, by simp; omega⟩
 rw [if_neg c3]
 exact ⟨_, p3, rfl, by omega, by omega, by omega⟩
def bT (n : Nat) (ts : List Tag) : Prop := ts.length ≤ n ∧ ∀ t ∈ ts, t.key.size ≤ 7 ∧ t.val.size ≤ 7
theorem mj7 (a : Rd) (hb : a.b.length ≤ 2000) : ∀ (m n : Nat) (i p : Int) (ts : List Tag) (q : Nat), m < n → i = m → bT q ts → q + m ≤ 100 → 0 ≤ p → p + 2 * m ≤ 100000 → m ≤ 100 → ∃ ts' p', ew7 a n i p ts = some (ts', p') ∧ p ≤ p' ∧ p' ≤ p + 2 * m ∧ bT (q + m) ts'
 | _, 0, _, _, _, _, h, _, _, _, _, _, _ => by omega
 | 0, n + 1, i, p, ts, q, h, hi, ht, hq, hp, hk, hm => by
  unfold ew7
  rw [if_neg (by simp; omega)]
  exact ⟨ts, p, rfl, by omega, by omega, ht⟩
 | m + 1, n + 1, i, p, ts, q, h, hi, ht, hq, hp, hk, hm => by
  unfold ew7
  rw [if_pos (by simp; omega)]
  obtain ⟨k, p1, h1, a1, b1, c1⟩ := uI7 a.b p hb hp (by omega)
  obtain ⟨v, p2, h2, a2, b2, c2⟩ := uJ7 a.b p1 hb (by omega) (by omega)
  obtain ⟨o, h3, h4, h5⟩ := uH7 (s := ts) (a := k) (b := v) (by have := ht.1; omega)
  simp only [h1, Option.bind_some, h2, h3]
  rw [aP7 (by omega) (by omega)]
  have ht1 : ts.length ≤ q := ht.1
  have ho : o.length ≤ q + 1 := by omega
  obtain ⟨ts', p', g1, g2, g3, g4⟩ := mj7 a hb m n (i - 1) p2 o (q + 1) (by omega) (by omega) ⟨ho, fun t hh => by
   rcases h5 t hh with h | h
   ·exact ht.2 t h
   ·subst h; exact ⟨c1, c2⟩⟩ (by omega) (by omega) (by omega) (by omega)
  exact ⟨ts', p', g1, by omega, by omega, by rw [show q + (m + 1) = q + 1 + m by omega]; exact g4⟩
theorem mk7 {id : Str} (hid : id.size ≤ 7 ∧ id.size ≠ 2) : Drw (fun r => lW7 r id) 40 fun f => (f.id.size ≤ 7 ∧ f.id.size ≠ 2) ∧ f.shape.pts.length ≤ 12 ∧ bT 4 f.tags := fun b p hb h0 hp => by
 obtain ⟨s, p1, h1, a1, b1, hs1, hs2⟩ := od7 b p hb h0 (by omega)
 obtain ⟨k, p2, h2, a2, b2, hk1, hk2⟩ := bN7 (n := 4) b p1 hb (by omega) (by omega)
 have hk2 := hk2 (by omega)
 simp only [lW7]
 simp only at h2
 simp only [h1, Option.bind_some, h2]
 obtain ⟨ts, p3, h3, a3, b3, c3⟩ := mj7 ⟨b, p⟩ hb k.toNat aT7 k p2 [] 0 (by unfold aT7; omega) (by omega) ⟨by simp, by simp⟩ (by omega) (by omega) (by omega) (by omega)
 rw [h3]
 exact ⟨_, p3, rfl, by omega, by omega, hid, hs2, (show ts.length ≤ 4 by have h := c3.1; have h' : ts.length ≤ 0 + k.toNat := h; omega), c3.2⟩
theorem yz7 : Drw rn7 80 fun f => bF 0 f := fun b p hb h0 hp => by
 obtain ⟨i, p1, h1, a1, b1, hi⟩ := tb7 b p hb h0 (by omega)
 obtain ⟨f, p2, h2, a2, b2, f1, f2, f3, f4⟩ := mk7 hi b p1 hb (by omega) (by omega)
 obtain ⟨c, p3, h3, a3, b3, _⟩ := bN7 (n := 40) b p2 hb (by omega) (by omega)
 unfold rn7
 simp only at h2 h3
 simp only [h1, Option.bind_some, h2, h3]
 by_cases c0 : (c == 0) = true
 ·rw [if_pos c0]
  obtain ⟨x, p4, h4, a4, b4, hx⟩ := rW7 (l := [(⟨#[]⟩ : Str), (⟨#[65]⟩ : Str), (⟨#[97, 98, 99, 100, 101, 102, 103]⟩ : Str)]) (by simp) b p3 hb (by omega) (by omega)
  simp only at h4
  rw [h4]
  exact ⟨_, p4, rfl, by omega, by omega, (by decide : ∀ y ∈ [(⟨#[]⟩ : Str), (⟨#[65]⟩ : Str), (⟨#[97, 98, 99, 100, 101, 102, 103]⟩ : Str)], y.size ≤ 7 ∧ y.size ≠ 2) x hx, by simp only; omega, by simp only; omega, f4⟩
 rw [if_neg c0]
 by_cases c1 : (c == 1) = true
 ·rw [if_pos c1]
  obtain ⟨x, p4, h4, a4, b4, hx⟩ := yy7 b p3 hb (by omega) (by omega)
  rw [h4]
  exact ⟨_, p4, rfl, by omega, by omega, f1, by simp only; omega, by simp only; omega, f4⟩
 rw [if_neg c1]
 by_cases c2 : (c == 2) = true
 ·rw [if_pos c2, if_pos (aa7 (by simp; omega))]
  refine ⟨_, p3, rfl, by omega, by omega, f1, by simp only; omega, by simp; omega, fun t ht => ?_⟩
  rcases List.mem_append.1 ht with h | h
  ·exact f4 t h
  ·simp only [List.mem_singleton] at h; subst h; exact ⟨by decide, by decide⟩
 rw [if_neg c2]
 by_cases c3 : (c == 3) = true
 ·rw [if_pos c3]
  obtain ⟨x, p4, h4, a4, b4, hx⟩ := rW7 (l := [(⟨#[]⟩ : Str), (⟨#[66]⟩ : Str)]) (by simp) b p3 hb (by omega) (by omega)
  simp only at h4
  rw [h4, Option.bind_some, if_pos (aa7 (by simp; omega))]
  refine ⟨_, p4, rfl, by omega, by omega, f1, by simp only; omega, by simp; omega, fun t ht => ?_⟩
  rcases List.mem_append.1 ht with h | h
  ·exact f4 t h
  ·simp only [List.mem_singleton] at h; subst h; exact ⟨(by decide : (⟨#[122, 122]⟩ : Str).size ≤ 7), (by decide : ∀ y ∈ [(⟨#[]⟩ : Str), (⟨#[66]⟩ : Str)], y.size ≤ 7) x hx⟩
 rw [if_neg c3]
 exact ⟨_, p3, rfl, by omega, by omega, f1, by simp only; omega, by simp only; omega, f4⟩
theorem kg7 (a : Rd) (hb : a.b.length ≤ 2000) : ∀ (m n : Nat) (i p : Int) (s : List Feat), m < n → i = m → (s.length + m ≤ 20 ∧ ∀ f ∈ s, bF 0 f) → 0 ≤ p → p + 41 * m ≤ 100000 → ∃ s' p', ex7 a n i p s = some (s', p') ∧ p ≤ p' ∧ p' ≤ p + 41 * m ∧ s'.length ≤ s.length + m ∧ ∀ f ∈ s', bF 0 f
 | _, 0, _, _, _, h, _, _, _, _ => by omega
 | 0, n + 1, i, p, s, h, hi, hs, hp, hk => by
  unfold ex7
  rw [if_neg (by simp; omega)]
  exact ⟨s, p, rfl, by omega, by omega, by omega, hs.2⟩
 | m + 1, n + 1, i, p, s, h, hi, hs, hp, hk => by
  unfold ex7
  rw [if_pos (by simp; omega)]
  obtain ⟨k, p1, h1, a1, b1, c1⟩ := tb7 a.b p hb hp (by omega)
  obtain ⟨f, p2, h2, a2, b2, f1, f2, f3, f4⟩ := mk7 c1 a.b p1 hb (by omega) (by omega)
  have hs1 := hs.1
  obtain ⟨o, h3, h4, h5⟩ := mh7 (s := s) (f := f) (by omega)
  simp only at h2
  simp only [h1, Option.bind_some, h2, h3]
  rw [aP7 (by omega) (by omega)]
  obtain ⟨s', p', g1, g2, g3, g4, g5⟩ := kg7 a hb m n (i - 1) p2 o (by omega) (by omega) ⟨by omega, fun t hh => by
   rcases h5 t hh with h | h
   ·exact hs.2 t h
   ·subst h; exact ⟨f1, by omega, by omega, f4⟩⟩ (by omega) (by omega)
  exact ⟨s', p', g1, by omega, by omega, by omega, g5⟩
theorem oe7 : Drw n77 170 fun s => s.length ≤ 4 ∧ ∀ f ∈ s, bF 0 f := fun b p hb h0 hp => by
 obtain ⟨k, p2, h2, a2, b2, hk1, hk2⟩ := bN7 (n := 5) b p hb (by omega) (by omega)
 have hk2 := hk2 (by omega)
 unfold n77
 simp only at h2
 simp only [h2, Option.bind_some]
 obtain ⟨s, p3, h3, a3, b3, c3, d3⟩ := kg7 ⟨b, p⟩ hb k.toNat aT7 k p2 [] (by unfold aT7; omega) (by omega) ⟨by simp; omega, by simp⟩ (by omega) (by omega)
 rw [h3]
 simp only [List.length_nil] at c3
 exact ⟨s, p3, rfl, by omega, by omega, by omega, d3⟩
theorem ml7 : ∀ (m n : Nat) (i : Int) (s : List Feat), m < n → 0 ≤ i → i + m = 9 → (s.length + m ≤ 20 ∧ ∀ f ∈ s, bF 0 f) → ∃ s', ey7 n i s = some s' ∧ s'.length ≤ s.length + m ∧ ∀ f ∈ s', bF 0 f
 | _, 0, _, _, h, _, _, _ => by omega
 | 0, n + 1, i, s, h, h0, hi, hs => by
  unfold ey7
  rw [if_neg (by simp; omega)]
  exact ⟨s, rfl, by omega, hs.2⟩
 | m + 1, n + 1, i, s, h, h0, hi, hs => by
  unfold ey7
  rw [if_pos (by simp; omega), aP7 (by omega) (by omega)]
  have hs1 := hs.1
  have hz : (⟨#[113, 114, 115, 116, 117, 118, 119, 120, 121, 122]⟩ : Str).size = 10 := by decide
  have hx : ∃ x : Str, CW7 (⟨#[113, 114, 115, 116, 117, 118, 119, 120, 121, 122]⟩ : Str) i (i + 1) = some x ∧ x.size ≤ 7 ∧ x.size ≠ 2 := by
   unfold CW7
   rw [if_pos ⟨h0, by omega, by rw [hz]; omega⟩]
   refine ⟨_, rfl, ?_⟩
   rw [ByteArray.size_extract, hz]
   omega
  obtain ⟨x, hx1, hx2⟩ := hx
  obtain ⟨o, h3, h4, h5⟩ := mh7 (s := s) (f := ⟨x, ⟨1, [⟨0, 0⟩]⟩, []⟩) (by omega)
  rw [hx1, Option.bind_some, h3, Option.bind_some]
  obtain ⟨s', g1, g2, g3⟩ := ml7 m n (i + 1) o (by omega) (by omega) (by omega) ⟨by omega, fun t hh => by
   rcases h5 t hh with h | h
   ·exact hs.2 t h
   ·subst h; exact ⟨hx2, by simp, by simp, by simp⟩⟩
  exact ⟨s', g1, by omega, g3⟩
theorem yA7 : Drw ro7 260 fun s => bS 0 s := fun b p hb h0 hp => by
 obtain ⟨s, p1, h1, a1, b1, hs1, hs2⟩ := oe7 b p hb h0 (by omega)
 obtain ⟨c, p2, h2, a2, b2, _⟩ := bN7 (n := 40) b p1 hb (by omega) (by omega)
 unfold ro7
 simp only at h2
 simp only [h1, Option.bind_some, h2]
 by_cases c0 : (c == 0) = true
 ·rw [if_pos c0]
  obtain ⟨f, p3, h3, a3, b3, hf⟩ := yz7 b p2 hb (by omega) (by omega)
  rw [h3, Option.bind_some, if_pos (aa7 (by simp; omega))]
  refine ⟨_, p3, rfl, by omega, by omega, by simp; omega, fun t ht => ?_⟩
  rcases List.mem_append.1 ht with h | h
  ·exact hs2 t h
  ·simp only [List.mem_singleton] at h; subst h; exact hf
 rw [if_neg c0]
 by_cases c1 : (c == 1) = true
 ·rw [if_pos c1, if_pos (aa7 (by simp; omega))]
  exact ⟨_, p2, rfl, by omega, by omega, by simp; omega, fun t ht => by rcases List.mem_append.1 ht with h | h <;> exact hs2 t h⟩
 rw [if_neg c1]
 by_cases c2 : (c == 2) = true
 ·rw [if_pos c2]
  obtain ⟨s', g1, g2, g3⟩ := ml7 9 aT7 0 s (by decide) (by omega) (by omega) ⟨by omega, hs2⟩
  rw [g1]
  exact ⟨s', p2, rfl, by omega, by omega, by omega, g3⟩
 rw [if_neg c2]
 exact ⟨s, p2, rfl, by omega, by omega, by omega, hs2⟩
theorem A67 {s : aI7} {k : Nat} (hs : s.pts.length ≤ 20 + k) (hk : k ≤ 4) : Drw (fun r => rs7 r s) 4 fun z => z.pts.length ≤ 20 + (k + 1) := fun b p hb h0 hp => by
 simp only [rs7]
 by_cases hz : s.pts.length = 0
 ·rw [if_pos (by simp [hz])]
  exact ⟨s, p, rfl, by omega, by omega, by omega⟩
 rw [if_neg (by simpa using hz)]
 obtain ⟨x, p1, h1, a1, b1, hx1, hx2⟩ := bN7 (n := (s.pts.length : Int)) b p hb h0 (by omega)
 have hx2 := hx2 (by omega)
 obtain ⟨c, p2, h2, a2, b2, _⟩ := bN7 (n := 3) b p1 hb (by omega) (by omega)
 obtain ⟨t, p3, h3, a3, b3, _⟩ := s97 b p2 hb (by omega) (by omega)
 simp only at h1 h2
 have e1 : slc s.pts 0 x = some (s.pts.take x.toNat) := by
  unfold slc
  rw [if_pos ⟨by omega, hx1, by omega⟩]
  simp
 have e2 : slc s.pts x (s.pts.length : Int) = some (s.pts.drop x.toNat) := by
  unfold slc
  rw [if_pos ⟨hx1, by omega, by omega⟩]
  simp
 have e3 : slc s.pts (x + 1) (s.pts.length : Int) = some (s.pts.drop (x.toNat + 1)) := by
  unfold slc
  rw [if_pos ⟨by omega, by omega, by omega⟩]
  have : (x + 1).toNat = x.toNat + 1 := by omega
  simp [this]
 rw [h1, Option.bind_some, e1, Option.bind_some, if_pos (aa7 (by simp; omega)), h2, Option.bind_some]
 have key : ∃ q p4, (if (c == 0) = true then ((ho7 (⟨b, p2⟩ : Rd)).bind fun x43 => if aE7 (([] ++ s.pts.take x.toNat) ++ ([x43.1] : (List Pt))).length = true then (slc s.pts x (s.pts.length : Int)).bind fun x49 => if aE7 ((([] ++ s.pts.take x.toNat) ++ ([x43.1] : (List Pt))) ++ x49).length = true then some (((([] ++ s.pts.take x.toNat) ++ ([x43.1] : (List Pt))) ++ x49), x43.2) else none else none) else (if (c == 1) = true then ((slc s.pts (IntKind.i64.wrap (x + 1)) (s.pts.length : Int)).bind fun x54 => if aE7 (([] ++ s.pts.take x.toNat) ++ x54).length = true then some ((([] ++ s.pts.take x.toNat) ++ x54), p2) else none) else ((ho7 (⟨b, p2⟩ : Rd)).bind fun x59 => if aE7 (([] ++ s.pts.take x.toNat) ++ ([x59.1] : (List Pt))).length = true then (slc s.pts (IntKind.i64.wrap (x + 1)) (s.pts.length : Int)).bind fun x65 => if aE7 ((([] ++ s.pts.take x.toNat) ++ ([x59.1] : (List Pt))) ++ x65).length = true then some (((([] ++ s.pts.take x.toNat) ++ ([x59.1] : (List Pt))) ++ x65), x59.2) else none else none)) : Option ((List Pt) × Int)) = some (q, p4) ∧ q.length ≤ s.pts.length + 1 ∧ p2 ≤ p4 ∧ p4 ≤ p2 + 2 := by
  rw [aP7 (n := x + 1) (by omega) (by omega)]
  split
  ·rw [h3, Option.bind_some, if_pos (aa7 (by simp; omega)), e2, Option.bind_some, if_pos (aa7 (by simp; omega))]
   exact ⟨_, _, rfl, by simp; omega, a3, b3⟩
  ·split
   ·rw [e3, Option.bind_some, if_pos (aa7 (by simp; omega))]
    exact ⟨_, _, rfl, by simp; omega, by omega, by omega⟩
   ·rw [h3, Option.bind_some, if_pos (aa7 (by simp; omega)), e3, Option.bind_some, if_pos (aa7 (by simp; omega))]
    exact ⟨_, _, rfl, by simp; omega, a3, b3⟩
 obtain ⟨q, p4, g1, g2, g3, g4⟩ := key
 rw [g1, Option.bind_some, iI7 (by simp only; omega), Option.bind_some]
 by_cases ho : (!dq7 ⟨s.kind, q⟩) = true
 ·rw [if_pos ho]
  exact ⟨s, p4, rfl, by omega, by omega, by omega⟩
 ·rw [if_neg ho]
  exact ⟨⟨s.kind, q⟩, p4, rfl, by omega, by omega, by simp only; omega⟩
theorem Ml7 {α : Type} {p : α → Nat → Bool} {l : List α} {k : Nat} (h : a27 p l k = true) {x : α} (hx : x ∈ l) : ∃ j, p x j = true := by
 obtain ⟨j, hj⟩ := List.getElem?_of_mem hx
 exact ⟨_, cf7 h j x hj⟩
theorem ck7 {s : Str} (h : bb7 s = true) : s.size ≤ 7 := by
 simp only [bb7, Bool.and_eq_true, decide_eq_true_eq] at h
 omega
theorem yB7 {s : List Feat} (hn : ∀ f ∈ s, f.id.size ≠ 2) (h : a97 s = true) : bS 0 s := by
 simp only [a97, Bool.and_eq_true, decide_eq_true_eq] at h
 refine ⟨by omega, fun f hf => ?_⟩
 obtain ⟨j, hj⟩ := Ml7 h.1 hf
 simp only [Bool.and_eq_true] at hj
 have h1 := hj.1
 simp only [bM7, dq7, qu7, Bool.and_eq_true, decide_eq_true_eq] at h1
 refine ⟨⟨ck7 h1.1, hn f hf⟩, by omega, by omega, fun t ht => ?_⟩
 obtain ⟨i, hi⟩ := Ml7 h1.2.2.1 ht
 simp only [Bool.and_eq_true] at hi
 exact ⟨ck7 hi.1, ck7 hi.2.1⟩
theorem pn7 {c : Feat → Bool} {gl : List Feat → Nat → List Feat → Option (List Feat)} (h0 : ∀ k v, gl [] k v = some v) (h1 : ∀ x l k v, gl (x :: l) k v = if c x = true then (if aE7 (v ++ [x]).length = true then gl l (k + 1) (v ++ [x]) else none) else gl l (k + 1) v) : ∀ (l : List Feat) (k : Nat) (v : List Feat), v.length + l.length ≤ 1000 → ∃ o, gl l k v = some o ∧ o.length ≤ v.length + l.length ∧ ∀ y ∈ o, y ∈ v ∨ y ∈ l
 | [], k, v, hl => ⟨v, h0 k v, by simp, fun y hy => .inl hy⟩
 | x :: l, k, v, hl => by
  simp only [List.length_cons] at hl
  rw [h1]
  by_cases hc : c x = true
  ·rw [if_pos hc, if_pos (aa7 (by simp; omega))]
   obtain ⟨o, g1, g2, g3⟩ := pn7 h0 h1 l (k + 1) (v ++ [x]) (by simp; omega)
   refine ⟨o, g1, by simp only [List.length_append, List.length_cons, List.length_nil] at g2 ⊢; omega, fun y hy => ?_⟩
   rcases g3 y hy with h | h
   ·rcases List.mem_append.1 h with h | h
    ·exact .inl h
    ·simp at h; simp [h]
   ·simp [h]
  ·rw [if_neg hc]
   obtain ⟨o, g1, g2, g3⟩ := pn7 h0 h1 l (k + 1) v (by omega)
   exact ⟨o, g1, by simp only [List.length_cons]; omega, fun y hy => (g3 y hy).imp id fun h => by simp [h]⟩
theorem A77 {s : List Feat} {id : Str} (h : s.length ≤ 1000) : ∃ o, rr7 s id = some o ∧ o.length ≤ s.length ∧ ∀ y ∈ o, y ∈ s := by
 unfold rr7
 rw [if_pos (aa7 (by omega))]
 obtain ⟨o, h1, h2, h3⟩ := pn7 (gl := fQ7 id) (c := fun x => !seq x.id id) (fun _ _ => rfl) (fun _ _ _ _ => rfl) s 0 [] (by simp; omega)
 rw [h1]
 exact ⟨o, rfl, by simpa using h2, fun y hy => by simpa using h3 y hy⟩
theorem iQ7 {α : Type} {p : α → Bool} : ∀ {l : List α} {k : Nat}, aK7 p l k = -1 ∨ (k : Int) ≤ aK7 p l k ∧ aK7 p l k < (k + l.length : Nat)
 | [], k => .inl rfl
 | x :: l, k => by
  simp only [aK7]
  split
  ·exact .inr ⟨by omega, by simp only [List.length_cons]; omega⟩
  ·rcases iQ7 (p := p) (l := l) (k := k + 1) with h | h
   ·exact .inl h
   ·exact .inr ⟨by omega, by simp only [List.length_cons]; omega⟩
theorem yC7 {s : List Feat} {id : Str} (h : s.length ≤ 1000) : ∃ v, j47 s id = some v ∧ (v < 0 ∨ 0 ≤ v ∧ v < s.length) := by
 unfold j47
 rw [if_pos (aa7 (by omega))]
 refine ⟨_, mT7 (gl := ee7 id) (p := fun x => seq x.id id) (ok := fun _ => True) (fun _ => rfl) (fun _ _ _ _ => rfl) s 0 (fun _ _ => trivial), ?_⟩
 rcases iQ7 (p := fun x : Feat => seq x.id id) (l := s) (k := 0) with h | h
 ·left; omega
 ·right; simpa using h
theorem hQ7 (a : Rd) (hb : a.b.length ≤ 2000) : ∀ (m n : Nat) (s : List Feat) (i p : Int) (k : Nat), m < n → i = m → bS k s → k + m ≤ 3 → 0 ≤ p → p + 50 * m ≤ 100000 → ∃ s' p', cv7 a n s i p = some (s', p') ∧ p ≤ p' ∧ p' ≤ p + 50 * m ∧ bS (k + m) s'
 | _, 0, _, _, _, _, h, _, _, _, _, _ => by omega
 | 0, n + 1, s, i, p, k, h, hi, hs, hk, hp, hq => by
  unfold cv7
  rw [if_neg (by simp; omega)]
  exact ⟨s, p, rfl, by omega, by omega, hs⟩
 | m + 1, n + 1, s, i, p, k, h, hi, hs, hk, hp, hq => by
  unfold cv7
  rw [if_pos (by simp; omega), aP7 (n := i - 1) (by omega) (by omega)]
  have hs1 : s.length ≤ 20 + k := hs.1
  have step : ∀ (f : Feat) (p1 : Int), bF (k + 1) f → p ≤ p1 → p1 ≤ p + 50 → ∃ o s' p', f97 s f = some o ∧ cv7 a n o (i - 1) p1 = some (s', p') ∧ p ≤ p' ∧ p' ≤ p + 50 * (m + 1) ∧ bS (k + (m + 1)) s' := fun f p1 hf q1 q2 => by
   obtain ⟨o, o1, o2, o3⟩ := A57 (s := s) (f := f) (by omega)
   obtain ⟨s', p', g1, g2, g3, g4⟩ := hQ7 a hb m n o (i - 1) p1 (k + 1) (by omega) (by omega) ⟨by omega, fun t ht => by
    rcases o3 t ht with h | h
    ·exact Mk7 (hs.2 t h)
    ·subst h; exact hf⟩ (by omega) (by omega) (by omega)
   exact ⟨o, s', p', o1, g1, by omega, by omega, by rw [show k + (m + 1) = k + 1 + m by omega]; exact g4⟩
  obtain ⟨id, p1, h1, a1, b1, c1⟩ := tb7 a.b p hb hp (by omega)
  obtain ⟨v, h2, hv⟩ := yC7 (s := s) (id := id) (by omega)
  rw [h1, Option.bind_some]
  simp only
  rw [h2, Option.bind_some]
  by_cases hneg : v < 0
  ·rw [if_pos (by simpa using hneg)]
   obtain ⟨f, p2, h3, a3, b3, f1, f2, f3, f4⟩ := mk7 c1 a.b p1 hb (by omega) (by omega)
   simp only at h3
   obtain ⟨o, s', p', e1, e2, e3, e4, e5⟩ := step f p2 ⟨f1, by omega, by omega, f4⟩ (by omega) (by omega)
   simp only [h3, Option.bind_some, e1]
   exact ⟨s', p', e2, e3, by omega, e5⟩
  ·rw [if_neg (by simpa using hneg)]
   have hv := hv.resolve_left hneg
   obtain ⟨c, p2, h3, a3, b3, _⟩ := bN7 (n := 4) a.b p1 hb (by omega) (by omega)
   simp only at h3
   rw [h3, Option.bind_some]
   simp only
   obtain ⟨f, hf⟩ := gY7 (xs := s) (i := v.toNat) (by omega)
   have hf' : idx s v = some f := by rw [cm7 hv.1]; exact hf
   have hbf := hs.2 f (List.mem_of_getElem? hf)
   by_cases c0 : (c == 0) = true
   ·rw [if_pos c0]
    obtain ⟨o, o1, o2, o3⟩ := A77 (s := s) (id := id) (by omega)
    rw [o1, Option.bind_some]
    obtain ⟨s', p', g1, g2, g3, g4⟩ := hQ7 a hb m n o (i - 1) p2 (k + 1) (by omega) (by omega) ⟨by omega, fun t ht => Mk7 (hs.2 t (o3 t ht))⟩ (by omega) (by omega) (by omega)
    exact ⟨s', p', g1, by omega, by omega, by rw [show k + (m + 1) = k + 1 + m by omega]; exact g4⟩
   rw [if_neg c0]
   obtain ⟨c2, p3, h4, a4, b4, _⟩ := bN7 (n := 2) a.b p2 hb (by omega) (by omega)
   simp only at h4
   rw [h4, Option.bind_some]
   simp only
   have hcp : hj7 f = some f := kP7 (by have := Q37 hbf (by omega); omega)
   by_cases c1' : (c2 == 0) = true
   ·rw [if_pos c1']
    obtain ⟨x, p4, h5, a5, b5, x1⟩ := uI7 a.b p3 hb (by omega) (by omega)
    obtain ⟨y, p5, h6, a6, b6, y1⟩ := uJ7 a.b p4 hb (by omega) (by omega)
    obtain ⟨ts, t1, t2, t3⟩ := uH7 (s := f.tags) (a := x) (b := y) (by have := hbf.2.2.1; omega)
    obtain ⟨o, s', p', e1, e2, e3, e4, e5⟩ := step ⟨f.id, f.shape, ts⟩ p5 ⟨hbf.1, by have := hbf.2.1; simp only; omega, by have := hbf.2.2.1; simp only; omega, fun t ht => by
     rcases t3 t ht with h | h
     ·exact hbf.2.2.2 t h
     ·subst h; exact ⟨x1, y1⟩⟩ (by omega) (by omega)
    simp only [hf', Option.bind_some, hcp, h5, h6, t1, e1]
    exact ⟨s', p', e2, e3, by omega, e5⟩
   ·rw [if_neg c1']
    obtain ⟨z, p4, h5, a5, b5, z1⟩ := A67 (s := f.shape) (k := k) hbf.2.1 (by omega) a.b p3 hb (by omega) (by omega)
    simp only at h5
    obtain ⟨o, s', p', e1, e2, e3, e4, e5⟩ := step ⟨f.id, z, f.tags⟩ p4 ⟨hbf.1, z1, by have := hbf.2.2.1; simp only; omega, hbf.2.2.2⟩ (by omega) (by omega)
    simp only [hf', Option.bind_some, hcp]
    rw [h5]
    simp only [Option.bind_some, e1]
    exact ⟨s', p', e2, e3, by omega, e5⟩
theorem yD7 {s : List Feat} (hs : bS 0 s) : Drw (fun r => rt7 r s) 151 fun o => bS 0 o := fun b p hb h0 hp => by
 obtain ⟨c, p1, h1, a1, b1, c1, c2⟩ := bN7 (n := 3) b p hb h0 (by omega)
 have c2 := c2 (by omega)
 simp only [rt7]
 simp only at h1
 rw [h1, Option.bind_some]
 simp only
 rw [aP7 (by omega) (by omega)]
 obtain ⟨o, p2, h2, a2, b2, d2⟩ := hQ7 ⟨b, p⟩ hb (1 + c).toNat aT7 s (1 + c) p1 0 (by unfold aT7; omega) (by omega) hs (by omega) (by omega) (by omega)
 have hw : bS 3 o := by
  have h3 : o.length ≤ 20 + (0 + (1 + c).toNat) := d2.1
  exact ⟨by omega, fun f hf => by
   obtain ⟨q1, q2, q3, q4⟩ := d2.2 f hf
   exact ⟨q1, by omega, by omega, q4⟩⟩
 rw [h2, Option.bind_some, e77 (by have := Q47 hw (by omega); simp only; omega), Option.bind_some]
 by_cases ho : a97 o = true
 ·simp only [ho]
  exact ⟨o, p2, rfl, by omega, by omega, yB7 (fun f hf => (d2.2 f hf).1.2) ho⟩
 ·rw [Bool.not_eq_true] at ho
  simp only [ho]
  exact ⟨s, p2, rfl, by omega, by omega, hs⟩
def nm3 : List Str := [(⟨#[109, 97, 105, 110]⟩ : Str), (⟨#[97, 110, 110]⟩ : Str), (⟨#[98, 111, 98]⟩ : Str)]
theorem uK7 {s : Str} (h : s ∈ nm3) : s.size ≤ 7 := (by decide : ∀ y ∈ nm3, y.size ≤ 7) s h
def bC0 (c : Commit) : Prop := c.up.length ≤ 3 ∧ bS 0 c.sheet ∧ c.note.size ≤ 7
def bC (c : Commit) : Prop := c.up.length ≤ 3 ∧ bS 0 c.sheet ∧ nt c.note
def bR (r : am7) : Prop := (1 ≤ r.commits.length ∧ r.commits.length ≤ 12) ∧ (1 ≤ r.heads.length ∧ r.heads.length ≤ 5) ∧ (∀ c ∈ r.commits, bC c) ∧ ∀ h ∈ r.heads, h.name ∈ nm3
def gR (r : am7) : Prop := bR r ∧ r.heads.length ≤ 4 ∧ (∀ h ∈ r.heads, 0 ≤ h.at_ ∧ h.at_ < (r.commits.length : Int)) ∧ ∀ c ∈ r.commits, c.up.length ≤ 2
theorem Qk7 {c : Commit} (h : bC0 c) : ay7 c ≤ 10020 := by
 obtain ⟨h1, h2, h3⟩ := h
 have := Q47 h2 (by omega)
 unfold ay7
 simp only [wL, qr7] at this ⊢
 omega
theorem Q57 {c : Commit} (h : bC c) : ay7 c ≤ 10020 := Qk7 ⟨h.1, h.2.1, h.2.2.1⟩
theorem Ql7 {r : am7} (h : bR r) : a37 r ≤ 200000 := by
 obtain ⟨h1, h2, h3, h4⟩ := h
 have e1 := jz7 (w := ay7) (n := 10020) (xs := r.commits) fun c hc => Q57 (h3 c hc)
 have e2 := jz7 (w := gi7) (n := 7) (xs := r.heads) fun c hc => by have := uK7 (h4 c hc); unfold gi7; omega
 unfold a37 wL
 omega
theorem A87 {x : am7} {k : Int} {c : Commit} (hx : gR x) (hk0 : 0 ≤ k) (hk : k < x.heads.length) (hc : bC c) (hc2 : c.up.length ≤ 2) (hl : x.commits.length < 12) : ∃ y, it7 x k c = some y ∧ gR y := by
 have hw := Ql7 hx.1
 obtain ⟨⟨⟨g1, g2⟩, ⟨g3, g4⟩, g5, g6⟩, g7, g8, g9⟩ := hx
 unfold it7
 rw [kN7 (by unfold a37 at hw; omega), Option.bind_some]
 obtain ⟨h, hh⟩ := gY7 (xs := x.heads) (i := k.toNat) (by omega)
 have hh' : idx x.heads k = some h := by rw [cm7 hk0]; exact hh
 have hn := g6 h (List.mem_of_getElem? hh)
 have set_ok : ∀ (m : Int) (z : Head), z ∈ x.heads.set k.toNat ⟨h.name, m⟩ → z ∈ x.heads ∨ z = ⟨h.name, m⟩ := fun m z hz => List.mem_or_eq_of_mem_set hz
 rcases iQ7 (p := fun y : Commit => decide (y = c)) (l := x.commits) (k := 0) with hf | hf
 ·have e : dV7 x.commits c = -1 := hf
  rw [e, if_pos (by decide), yv7 (by have := Q57 hc; omega), Option.bind_some, if_pos (aa7 (by simp; omega)), hh', Option.bind_some]
  refine ⟨_, rfl, ⟨⟨by simp, by simp; omega⟩, ⟨by simp; omega, by simp; omega⟩, fun d hd => ?_, fun z hz => ?_⟩, by simp; omega, fun z hz => ?_, fun d hd => by
   rcases List.mem_append.1 hd with h | h
   ·exact g9 d h
   ·simp only [List.mem_singleton] at h; subst h; exact hc2⟩
  ·rcases List.mem_append.1 hd with h | h
   ·exact g5 d h
   ·simp only [List.mem_singleton] at h; subst h; exact hc
  ·rcases set_ok _ z hz with h | h
   ·exact g6 z h
   ·subst h; exact hn
  ·rcases set_ok _ z hz with h | h
   ·have := g8 z h; simp only [List.length_append, List.length_singleton]; omega
   ·subst h; simp only [List.length_append, List.length_singleton]; omega
 ·have e : dV7 x.commits c = aK7 (fun y : Commit => decide (y = c)) x.commits 0 := rfl
  rw [← e] at hf
  rw [if_neg (by simp; omega), hh', Option.bind_some]
  refine ⟨_, rfl, ⟨⟨g1, g2⟩, ⟨by simp; omega, by simp; omega⟩, g5, fun z hz => ?_⟩, by simp; omega, fun z hz => ?_, g9⟩
  ·rcases set_ok _ z hz with h | h
   ·exact g6 z h
   ·subst h; exact hn
  ·rcases set_ok _ z hz with h | h
   ·exact g8 z h
   ·subst h; simp only; omega
theorem mm7 {hs : List Head} {n : Str} : aV7 hs n < 0 ∨ 0 ≤ aV7 hs n ∧ aV7 hs n < hs.length := by
 rcases iQ7 (p := fun y : Head => decide (y.name = n)) (l := hs) (k := 0) with h | h
 ·left
  have e : aV7 hs n = -1 := h
  omega
 ·right
  have e : aV7 hs n = aK7 (fun y : Head => decide (y.name = n)) hs 0 := rfl
  rw [← e] at h
  simpa using h
theorem yE7 {r : am7} {n f : Str} (h : gR r) (hn : n ∈ nm3) (hl : 0 < (eM7 r n f).1.heads.length) : gR (eM7 r n f).1 := by
 unfold eM7 at hl ⊢
 split
 ·rename_i h0
  rw [if_pos h0] at hl
  split
  ·exact h
  ·rename_i h1
   rw [if_neg h1] at hl
   split
   ·exact h
   ·rename_i h2
    rw [if_neg h2] at hl
    obtain ⟨⟨⟨g1, g2⟩, ⟨g3, g4⟩, g5, g6⟩, g7, g8, g9⟩ := h
    have hm := mm7 (hs := r.heads) (n := f)
    obtain ⟨z, hz⟩ := gY7 (xs := r.heads) (i := (aV7 r.heads f).toNat) (by omega)
    have hz' : idx r.heads (aV7 r.heads f) = some z := by rw [cm7 (by omega)]; exact hz
    rw [hz']
    have hz8 := g8 z (List.mem_of_getElem? hz)
    refine ⟨⟨⟨g1, g2⟩, ⟨by simp, by simp; omega⟩, g5, fun y hy => ?_⟩, by simp; omega, fun y hy => ?_, g9⟩
    ·rcases List.mem_append.1 hy with h | h
     ·exact g6 y h
     ·simp only [List.mem_singleton] at h; subst h; exact hn
    ·rcases List.mem_append.1 hy with h | h
     ·exact g8 y h
     ·simp only [List.mem_singleton] at h; subst h; exact hz8
 ·rename_i h0
  rw [if_neg h0] at hl
  exact absurd hl (by decide)
theorem yF7 {x : am7} (hx : gR x) : Drw (fun r => rv7 r x) 160 fun o => ∀ y, o = some y → gR y := fun b p hb h0 hp => by
 have hw := Ql7 hx.1
 have hx' := hx
 obtain ⟨⟨⟨g1, g2⟩, ⟨g3, g4⟩, g5, g6⟩, g7, g8, g9⟩ := hx
 obtain ⟨nm, p1, h1, a1, b1, c1⟩ := mi7 b p hb h0 (by omega)
 simp only [rv7]
 rw [h1, Option.bind_some]
 simp only
 rw [g07 (by omega), Option.bind_some]
 have hm := mm7 (hs := x.heads) (n := nm)
 by_cases hneg : aV7 x.heads nm < 0
 ·rw [if_pos (by simpa using hneg)]
  obtain ⟨k, p2, h2, a2, b2, k1, k2⟩ := bN7 (n := (x.heads.length : Int)) b p1 hb (by omega) (by omega)
  have k2 := k2 (by omega)
  simp only at h2
  obtain ⟨z, hz⟩ := gY7 (xs := x.heads) (i := k.toNat) (by omega)
  have hz' : idx x.heads k = some z := by rw [cm7 k1]; exact hz
  rw [h2, Option.bind_some]
  simp only
  rw [hz', Option.bind_some, rV7 (by omega) (by have := uK7 c1; omega), Option.bind_some]
  by_cases hl : 0 < (eM7 x nm z.name).1.heads.length
  ·rw [if_pos (by simpa using hl)]
   exact ⟨_, p2, rfl, by omega, by omega, fun y hy => by cases hy; exact yE7 hx' c1 hl⟩
  ·rw [if_neg (by simpa using hl)]
   exact ⟨_, p2, rfl, by omega, by omega, fun y hy => by cases hy⟩
 ·rw [if_neg (by simpa using hneg)]
  have hm := hm.resolve_left hneg
  obtain ⟨z, hz⟩ := gY7 (xs := x.heads) (i := (aV7 x.heads nm).toNat) (by omega)
  have hz' : idx x.heads (aV7 x.heads nm) = some z := by rw [cm7 hm.1]; exact hz
  have hz8 := g8 z (List.mem_of_getElem? hz)
  obtain ⟨cm, hcm⟩ := gY7 (xs := x.commits) (i := z.at_.toNat) (by omega)
  have hcm' : idx x.commits z.at_ = some cm := by rw [cm7 hz8.1]; exact hcm
  have hcb := g5 cm (List.mem_of_getElem? hcm)
  obtain ⟨sh, p2, h2, a2, b2, c2⟩ := yD7 hcb.2.1 b p1 hb (by omega) (by omega)
  obtain ⟨nt, p3, h3, a3, b3, c3⟩ := yx7 b p2 hb (by omega) (by omega)
  obtain ⟨k, p4, h4, a4, b4, k1, k2⟩ := bN7 (n := (x.heads.length : Int)) b p3 hb (by omega) (by omega)
  have k2 := k2 (by omega)
  simp only at h2 h3 h4
  obtain ⟨y, hy⟩ := gY7 (xs := x.heads) (i := k.toNat) (by omega)
  have hy' : idx x.heads k = some y := by rw [cm7 k1]; exact hy
  rw [hz', Option.bind_some, hcm', Option.bind_some, h2, Option.bind_some]
  simp only
  rw [h3, Option.bind_some, Option.bind_some]
  simp only
  rw [h4, Option.bind_some]
  simp only
  rw [hy', Option.bind_some]
  obtain ⟨w, p5, h5, a5, b5, _⟩ := bN7 (n := 4) b p4 hb (by omega) (by omega)
  simp only at h5
  have key : ∃ up p6, ((if (y.at_ != z.at_) = true then ((bJ7 (⟨b, p4⟩ : Rd) 4).bind fun x49 => if (x49.1 == 0) = true then (some ([z.at_, y.at_], x49.2)) else (some ([z.at_], x49.2))) else (some ([z.at_], p4)) : Option ((List Int) × Int))) = some (up, p6) ∧ up.length ≤ 2 ∧ p4 ≤ p6 ∧ p6 ≤ p4 + 1 := by
   split
   ·rw [h5, Option.bind_some]
    simp only
    split
    ·exact ⟨_, _, rfl, by simp, a5, b5⟩
    ·exact ⟨_, _, rfl, by simp, a5, b5⟩
   ·exact ⟨_, _, rfl, by simp, by omega, by omega⟩
  obtain ⟨up, p6, k1', k2', k3', k4'⟩ := key
  rw [k1', Option.bind_some]
  by_cases hl : 12 ≤ x.commits.length
  ·rw [if_pos (by simp; omega)]
   exact ⟨_, p6, rfl, by omega, by omega, fun y hy => by cases hy⟩
  ·rw [if_neg (by simp; omega), pk7 (by omega), Option.bind_some]
   obtain ⟨o, o1, o2⟩ := A87 (k := aV7 x.heads nm) (c := ⟨up, sh, nt⟩) hx' hm.1 hm.2 ⟨by simp only; omega, c2, c3⟩ k2' (by omega)
   rw [o1]
   exact ⟨_, p6, rfl, by omega, by omega, fun y hy => by cases hy; exact o2⟩
theorem hR7 (a : Rd) (hb : a.b.length ≤ 2000) : ∀ (m n : Nat) (i p : Int) (cs : List Commit) (hs : List Head), m < n → i = m → gR ⟨cs, hs⟩ → 0 ≤ p → p + 160 * m ≤ 100000 → ∃ p' cs' hs', dG7 a n i p cs hs = some (p', cs', hs') ∧ p ≤ p' ∧ p' ≤ p + 160 * m ∧ gR ⟨cs', hs'⟩
 | _, 0, _, _, _, _, h, _, _, _, _ => by omega
 | 0, n + 1, i, p, cs, hs, h, hi, hg, hp, hq => by
  unfold dG7
  rw [if_neg (by simp; omega)]
  exact ⟨p, cs, hs, rfl, by omega, by omega, hg⟩
 | m + 1, n + 1, i, p, cs, hs, h, hi, hg, hp, hq => by
  unfold dG7
  rw [if_pos (by simp; omega), aP7 (n := i - 1) (by omega) (by omega)]
  obtain ⟨o, p1, h1, a1, b1, c1⟩ := yF7 hg a.b p hb hp (by omega)
  simp only at h1
  rw [h1, Option.bind_some]
  cases o with
  | none =>
   obtain ⟨p', cs', hs', e1, e2, e3, e4⟩ := hR7 a hb m n (i - 1) p1 cs hs (by omega) (by omega) hg (by omega) (by omega)
   exact ⟨p', cs', hs', e1, by omega, by omega, e4⟩
  | some y =>
   obtain ⟨p', cs', hs', e1, e2, e3, e4⟩ := hR7 a hb m n (i - 1) p1 y.commits y.heads (by omega) (by omega) (c1 y rfl) (by omega) (by omega)
   exact ⟨p', cs', hs', e1, by omega, by omega, e4⟩
theorem yG7 : Drw rw7 1500 gR := fun b p hb h0 hp => by
 obtain ⟨s, p1, h1, a1, b1, s1, s2⟩ := oe7 b p hb h0 (by omega)
 obtain ⟨k, p2, h2, a2, b2, k1, k2⟩ := bN7 (n := 7) b p1 hb (by omega) (by omega)
 have k2 := k2 (by omega)
 have hnew : rp7 (⟨#[109, 97, 105, 110]⟩ : Str) = some (⟨[⟨[], [], (⟨#[98, 101, 103, 105, 110]⟩ : Str)⟩], [⟨(⟨#[109, 97, 105, 110]⟩ : Str), 0⟩]⟩, true) := by
  unfold rp7
  rw [eB7 (by decide), Option.bind_some, (by decide : bb7 (⟨#[109, 97, 105, 110]⟩ : Str) = true)]
  rfl
 simp only at h2
 unfold rw7
 rw [hnew, Option.bind_some, h1, Option.bind_some]
 simp only
 rw [show idx [(⟨[], [], (⟨#[98, 101, 103, 105, 110]⟩ : Str)⟩ : Commit)] 0 = some ⟨[], [], (⟨#[98, 101, 103, 105, 110]⟩ : Str)⟩ from rfl, Option.bind_some, h2, Option.bind_some]
 simp only
 rw [aP7 (n := 2 + k) (by omega) (by omega)]
 have hg : gR ⟨List.set [(⟨[], [], (⟨#[98, 101, 103, 105, 110]⟩ : Str)⟩ : Commit)] (0 : Int).toNat ⟨[], s, (⟨#[98, 101, 103, 105, 110]⟩ : Str)⟩, [⟨(⟨#[109, 97, 105, 110]⟩ : Str), 0⟩]⟩ := by
  refine ⟨⟨⟨by simp, by simp⟩, ⟨by simp, by simp⟩, fun c hc => ?_, fun h hh => ?_⟩, by simp, fun h hh => ?_, fun c hc => ?_⟩
  ·have : c = ⟨[], s, (⟨#[98, 101, 103, 105, 110]⟩ : Str)⟩ := by simpa using hc
   subst this
   exact ⟨by simp, ⟨by simp only; omega, s2⟩, Fl7 (s := ⟨#[98, 101, 103, 105, 110]⟩) (by decide)⟩
  ·simp only [List.mem_singleton] at hh; subst hh; exact (List.mem_cons_self : (⟨#[109, 97, 105, 110]⟩ : Str) ∈ nm3)
  ·simp only [List.mem_singleton] at hh; subst hh; simp
  ·have : c = ⟨[], s, (⟨#[98, 101, 103, 105, 110]⟩ : Str)⟩ := by simpa using hc
   subst this
   simp
 obtain ⟨p3, cs, hs, h3, a3, b3, c3⟩ := hR7 ⟨b, p⟩ hb (2 + k).toNat aT7 (2 + k) p2 _ _ (by unfold aT7; omega) (by omega) hg (by omega) (by omega)
 rw [h3, Option.bind_some]
 simp only
 obtain ⟨w, p4, h4, a4, b4, _⟩ := bN7 (n := 4) b p3 hb (by omega) (by omega)
 simp only at h4
 rw [h4, Option.bind_some]
 simp only
 split
 ·by_cases hl : 1 < hs.length
  ·rw [if_pos (by simp; omega), cd7 (by omega) (by have := c3.2.1; simp only at this; omega)]
   unfold slc
   rw [if_pos ⟨by omega, by omega, by omega⟩]
   obtain ⟨⟨g1, ⟨g3, g4⟩, g5, g6⟩, g7, g8, g9⟩ := c3
   simp only at g3 g4 g7 g8 g6
   refine ⟨_, p4, rfl, by omega, by omega, ⟨g1, ⟨by simp; omega, by simp; omega⟩, g5, fun h hh => ?_⟩, by simp; omega, fun h hh => ?_, g9⟩
   ·exact g6 h (List.mem_of_mem_take (List.mem_of_mem_drop hh))
   ·exact g8 h (List.mem_of_mem_take (List.mem_of_mem_drop hh))
  ·rw [if_neg (by simp; omega)]
   exact ⟨_, p4, rfl, by omega, by omega, c3⟩
 ·exact ⟨_, p4, rfl, by omega, by omega, c3⟩
theorem A97 {cs : List Commit} {i : Nat} {c y : Commit} (h : y ∈ cs.set i c) : y ∈ cs ∨ y = c := List.mem_or_eq_of_mem_set h
theorem po7 {r : am7} {i : Nat} {c : Commit} (h : bR r) (hc : bC c) : bR ⟨r.commits.set i c, r.heads⟩ := by
 obtain ⟨g1, g2, g3, g4⟩ := h
 refine ⟨by simpa using g1, g2, fun y hy => ?_, g4⟩
 rcases A97 hy with h | h
 ·exact g3 y h
 ·subst h; exact hc
theorem yH7 : Drw rx7 1800 bR := fun b p hb h0 hp => by
 obtain ⟨r, p1, h1, a1, b1, hg⟩ := yG7 b p hb h0 (by omega)
 have hr := hg.1
 have hr' := hr
 obtain ⟨⟨g1, g2⟩, ⟨g3, g4⟩, g5, g6⟩ := hr
 have g7 := hg.2.1
 obtain ⟨k, p2, h2, a2, b2, k1, k2⟩ := bN7 (n := (r.commits.length : Int)) b p1 hb (by omega) (by omega)
 have k2 := k2 (by omega)
 obtain ⟨c, p3, h3, a3, b3, _⟩ := bN7 (n := 48) b p2 hb (by omega) (by omega)
 simp only at h2 h3
 unfold rx7
 rw [h1, Option.bind_some]
 simp only
 rw [h2, Option.bind_some]
 simp only
 rw [h3, Option.bind_some, Option.bind_some]
 simp only
 obtain ⟨y, hy⟩ := gY7 (xs := r.commits) (i := k.toNat) (by omega)
 have hy' : idx r.commits k = some y := by rw [cm7 k1]; exact hy
 have hyb := g5 y (List.mem_of_getElem? hy)
 obtain ⟨z, hz⟩ := gY7 (xs := r.heads) (i := 0) (by omega)
 have hz' : idx r.heads 0 = some z := by rw [show (0 : Int) = ((0 : Nat) : Int) from rfl, ag7]; exact hz
 have hzb := g6 z (List.mem_of_getElem? hz)
 by_cases c0 : (c == 0) = true
 ·rw [if_pos c0]
  obtain ⟨x, p4, h4, a4, b4, _⟩ := rX7 (l := [-1, (r.commits.length : Int)]) (by simp) b p3 hb (by omega) (by omega)
  simp only at h4
  rw [h4, Option.bind_some, hz']
  refine ⟨_, p4, rfl, by omega, by omega, ⟨g1, g2⟩, ⟨by simp; omega, by simp; omega⟩, g5, fun h hh => ?_⟩
  rcases List.mem_or_eq_of_mem_set hh with h' | h'
  ·exact g6 h h'
  ·subst h'; exact hzb
 rw [if_neg c0]
 by_cases c1 : (c == 1) = true
 ·rw [if_pos c1, hy', Option.bind_some]
  have hup : y.up.length ≤ 2 := hg.2.2.2 y (List.mem_of_getElem? hy)
  rw [if_pos (aa7 (by simp; omega))]
  exact ⟨_, p3, rfl, by omega, by omega, po7 hr' ⟨by simp; omega, hyb.2.1, hyb.2.2⟩⟩
 rw [if_neg c1]
 by_cases c2 : (c == 2) = true
 ·rw [if_pos c2]
  obtain ⟨x, p4, h4, a4, b4, hx⟩ := yA7 b p3 hb (by omega) (by omega)
  rw [h4, Option.bind_some, hy']
  exact ⟨_, p4, rfl, by omega, by omega, po7 hr' ⟨hyb.1, hx, hyb.2.2⟩⟩
 rw [if_neg c2]
 by_cases c3 : (c == 3) = true
 ·rw [if_pos c3, hy']
  exact ⟨_, p3, rfl, by omega, by omega, po7 hr' ⟨hyb.1, hyb.2.1, Fl7 (s := ⟨#[]⟩) (by decide)⟩⟩
 rw [if_neg c3]
 by_cases c4 : (c == 4) = true
 ·rw [if_pos c4, hz', Option.bind_some, if_pos (aa7 (by simp; omega))]
  refine ⟨_, p3, rfl, by omega, by omega, ⟨g1, g2⟩, ⟨by simp, by simp; omega⟩, g5, fun h hh => ?_⟩
  rcases List.mem_append.1 hh with h' | h'
  ·exact g6 h h'
  ·simp only [List.mem_singleton] at h'; subst h'; exact hzb
 rw [if_neg c4]
 by_cases c5 : (c == 5) = true
 ·rw [if_pos c5, hy']
  exact ⟨_, p3, rfl, by omega, by omega, po7 hr' ⟨by simp, hyb.2.1, hyb.2.2⟩⟩
 rw [if_neg c5]
 exact ⟨r, p3, rfl, by omega, by omega, hr'⟩
theorem Fm7 (code : List UInt8) : ∃ b, rj7 code = some ⟨b, 0⟩ ∧ b.length ≤ 2000 := by
 unfold rj7
 split
 ·rename_i h
  have h' : (code.length : Int) > 2000 := by simpa using h
  unfold slc
  rw [if_pos ⟨by omega, by omega, by omega⟩]
  exact ⟨_, rfl, by simp; omega⟩
 ·rename_i h
  have h' : ¬ (code.length : Int) > 2000 := by simpa using h
  exact ⟨code, rfl, by omega⟩
theorem mn7 {α : Type} {p : α → Nat → Bool} : ∀ {a b : List α} {k : Nat}, a27 p (a ++ b) k = (a27 p a k && a27 p b (k + a.length))
 | [], b, k => by simp [a27]
 | x :: a, b, k => by
  simp only [List.cons_append, a27, mn7 (a := a), List.length_cons, Bool.and_assoc]
  rw [show k + 1 + a.length = k + (a.length + 1) by omega]
theorem tc7 {α : Type} {p q : α → Nat → Bool} {l : List α} {k : Nat} (h : ∀ j x, l[j]? = some x → p x (k + j) = true → q x (k + j) = true) (hp : a27 p l k = true) : a27 q l k = true :=
 n97 fun j x hx => h j x hx (cf7 hp j x hx)
theorem mo7 {α : Type} {p : α → Bool} : ∀ {a b : List α} {k : Nat}, aK7 p (a ++ b) k = if aK7 p a k < 0 then aK7 p b (k + a.length) else aK7 p a k
 | [], b, k => by simp [aK7]
 | x :: a, b, k => by
  simp only [List.cons_append, aK7]
  split
  ·rw [if_neg (by omega)]
  ·rw [mo7 (a := a), List.length_cons, show k + 1 + a.length = k + (a.length + 1) by omega]
theorem yI7 {α β : Type} {f : α → β} {p : β → Bool} : ∀ {l : List α} {k : Nat}, aK7 (fun x => p (f x)) l k = aK7 p (l.map f) k
 | [], k => rfl
 | x :: l, k => by
  simp only [List.map_cons, aK7]
  split
  ·rfl
  ·exact yI7
theorem rY7 {hs : List Head} {n : Str} : aV7 hs n = aK7 (fun x => decide (x = n)) (hs.map Head.name) 0 := yI7 (f := Head.name) (p := fun x => decide (x = n))
theorem td7 {a b : List Head} {n : Str} (h : a.map Head.name = b.map Head.name) : aV7 a n = aV7 b n := by rw [rY7, rY7, h]
theorem yJ7 {hs : List Head} {i : Nat} {h : Head} {v : Int} (hi : hs[i]? = some h) : (hs.set i ⟨h.name, v⟩).map Head.name = hs.map Head.name := by
 rw [List.map_set]
 apply List.ext_getElem?
 intro j
 rw [List.getElem?_set]
 split
 ·rename_i e
  subst e
  have := (List.getElem?_eq_some_iff.1 hi).1
  have e := (List.getElem?_eq_some_iff.1 hi).2
  simp [this, e]
 ·rfl
theorem jA7 {r : am7} : bp7 r = true ↔ (1 ≤ r.commits.length ∧ r.commits.length ≤ 14) ∧ (1 ≤ r.heads.length ∧ r.heads.length ≤ 4) ∧ df7 r.commits = true ∧ lB7 r.commits.length r.heads = true := by
 unfold bp7
 simp only [Bool.and_eq_true, decide_eq_true_eq]
 constructor
 ·rintro ⟨a, b, c, d, e, f⟩; exact ⟨⟨a, b⟩, ⟨c, d⟩, e, f⟩
 ·rintro ⟨⟨a, b⟩, ⟨c, d⟩, e, f⟩; exact ⟨a, b, c, d, e, f⟩
theorem Ba7 {r : am7} (h : bp7 r = true) {i : Nat} {z : Head} (hz : r.heads[i]? = some z) : bb7 z.name = true ∧ aV7 r.heads z.name = (i : Int) ∧ 0 ≤ z.at_ ∧ z.at_ < (r.commits.length : Int) := by
 have := cf7 (jA7.1 h).2.2.2 i z hz
 simp only [Nat.zero_add, Bool.and_eq_true, decide_eq_true_eq] at this
 exact ⟨this.1, this.2.1, this.2.2.1, this.2.2.2⟩
theorem rZ7 {r : am7} {n : Str} {v : Int} (h : bp7 r = true) (hn : bb7 n = true) (hl : r.heads.length < 4) (hno : aV7 r.heads n < 0) (h0 : 0 ≤ v) (h1 : v < (r.commits.length : Int)) : bp7 ⟨r.commits, r.heads ++ [⟨n, v⟩]⟩ = true := by
 obtain ⟨a, b, c, d⟩ := jA7.1 h
 refine jA7.2 ⟨a, ⟨by simp, by simp; omega⟩, c, ?_⟩
 unfold lB7
 rw [mn7, Bool.and_eq_true]
 constructor
 ·refine tc7 (fun j x hx hp => ?_) d
  simp only [Nat.zero_add, Bool.and_eq_true, decide_eq_true_eq] at hp ⊢
  refine ⟨hp.1, ?_, hp.2.2⟩
  have e : aV7 r.heads x.name = aK7 (fun y : Head => decide (y.name = x.name)) r.heads 0 := rfl
  unfold aV7
  rw [mo7, ← e, if_neg (by omega)]
  exact hp.2.1
 ·have e : aV7 r.heads n = aK7 (fun y : Head => decide (y.name = n)) r.heads 0 := rfl
  simp only [a27, Nat.zero_add, Bool.and_true, Bool.and_eq_true, decide_eq_true_eq]
  refine ⟨hn, ?_, h0, h1⟩
  unfold aV7
  rw [mo7, ← e, if_pos hno]
  simp [aK7]
def twin : Str := ⟨#[116, 119, 105, 110]⟩
theorem Fn7 {hs : List Head} (h : ∀ z ∈ hs, z.name ∈ nm3) : aV7 hs twin < 0 := by
 have key : ∀ (l : List Head) (k : Nat), (∀ z ∈ l, z.name ∈ nm3) → aK7 (fun y : Head => decide (y.name = twin)) l k = -1 := by
  intro l
  induction l with
  | nil => intro k _; rfl
  | cons z l ih =>
   intro k hz
   have h1 := hz z (by simp)
   have h2 : z.name ≠ twin := fun e => by
    rw [e] at h1
    revert h1
    simp only [nm3, List.mem_cons, List.not_mem_nil, or_false]
    decide
   simp only [aK7, decide_eq_true_eq, if_neg h2]
   exact ih (k + 1) fun y hy => hz y (by simp [hy])
 have e : aV7 hs twin = -1 := key hs 0 h
 omega
theorem yK7 {hs : List Head} {z : Head} {n : Str} (h : 0 ≤ aV7 hs n) : aV7 (hs ++ [z]) n = aV7 hs n := by
 have e : aV7 hs n = aK7 (fun y : Head => decide (y.name = n)) hs 0 := rfl
 unfold aV7 at h ⊢
 rw [mo7, if_neg (by omega)]
theorem yL7 {hs : List Head} {z : Head} (h : aV7 hs z.name < 0) : aV7 (hs ++ [z]) z.name = (hs.length : Int) := by
 unfold aV7 at h ⊢
 rw [mo7, if_pos h]
 simp [aK7]
theorem te7 {r : am7} {n f : Str} {i : Nat} {z : Head} (hr : bp7 r = true) (hn : bb7 n = true) (hi : aV7 r.heads f = (i : Int)) (hz : r.heads[i]? = some z) (hno : aV7 r.heads n < 0) (hl : r.heads.length < 4) : eM7 r n f = (⟨r.commits, r.heads ++ [⟨n, z.at_⟩]⟩, 0) := by
 unfold eM7
 have hz' : idx r.heads (aV7 r.heads f) = some z := by rw [hi, ag7]; exact hz
 rw [if_pos (by rw [hr, hn]; rfl), if_neg (by omega), if_neg (by omega), hz']
theorem Qm7 (x y : Head) : ((x.name == y.name) && ((x.at_ == y.at_) && true)) = decide (x = y) := by
 obtain ⟨a, b⟩ := x; obtain ⟨c, d⟩ := y
 simp only [Hk7]
 by_cases h1 : a = c <;> by_cases h2 : b = d <;> simp [h1, h2]
theorem Bb7 {a b : List Head} (h : a.length ≤ 1048576) : uu7 a b = some (decide (a = b)) := cL7 (gl := fR7) (ok := fun _ => True) (fun _ _ => rfl) (fun a x l k y _ hy => by
 simp only [fR7, ag7, hy, Option.bind_some, Qm7]
 by_cases e : x = y <;> simp [e]) (fun _ _ => rfl) h (fun _ _ => trivial)
theorem vZ7 {a b : List Commit} (h : wL ay7 a ≤ 1048576) : uv7 a b = some (decide (a = b)) := cL7 (gl := fS7) (ok := fun x => ay7 x ≤ 1048576) (fun _ _ => rfl) (fun a x l k y hx hy => by
 simp only [fS7, ag7, hy, Option.bind_some, ke7 hx]
 by_cases e : x = y <;> simp [e]) (fun _ _ => rfl) (by unfold wL at h; omega) (fun x hx => by have := bA7 (w := ay7) hx; unfold wL at h; omega)
theorem jB7 {a b : am7} (h : a37 a ≤ 1048576) : lY7 a b = some (decide (a = b)) := by
 unfold a37 at h
 unfold lY7
 rw [vZ7 (by omega), Bb7 (by unfold wL at h; omega)]
 obtain ⟨i, s⟩ := a; obtain ⟨i2, s2⟩ := b
 by_cases h1 : i = i2 <;> by_cases h2 : s = s2 <;> simp [h1, h2]
theorem r07 {r : am7} {n : Str} (hw : a37 r ≤ 1048576) : ry7 r n = some (dY7 r n) := by
 have hh : r.heads.length ≤ 1048576 := by unfold a37 wL at hw; omega
 unfold ry7
 rw [db7 hh, kO7 hw]
 simp only [Option.bind_some]
 rcases rS7 r n with ⟨h1, h2⟩ | ⟨k, a, h, hr, h1, h2, h3, h4, h5, h6⟩
 ·rw [h1]
  by_cases hr : bp7 r = true
  ·rw [hr, h2 hr]
   rfl
  ·simp only [Bool.not_eq_true] at hr
   rw [hr]
   rfl
 ·rw [h6, hr, h1]
  simp only [Bool.not_true]
  rw [if_neg (by decide), if_neg (by simp), ag7, h2]
  simp [h4]
theorem yM7 {m : List Bool} {k : Nat} (h : ge7 m k = true) : k < m.length := by
 unfold ge7 at h
 rcases Nat.lt_or_ge k m.length with h1 | h1
 ·exact h1
 ·rw [List.getElem?_eq_none h1] at h
  cases h
theorem uL7 {m : List Bool} {a : Nat} : ∀ {b : Nat}, a ≤ b → cnt m a ≤ cnt m b
 | 0, h => by
  have : a = 0 := by omega
  subst this; exact Nat.le_refl _
 | b + 1, h => by
  rcases Nat.eq_or_lt_of_le h with rfl | h
  ·exact Nat.le_refl _
  ·have := uL7 (m := m) (a := a) (b := b) (by omega)
   simp only [cnt]
   omega
theorem of7 {m : List Bool} : ∀ {l : List Commit} {k : Nat}, (gf7 m l k).length + cnt m k = cnt m (k + l.length)
 | [], k => by simp [gf7]
 | x :: l, k => by
  have ih := of7 (m := m) (l := l) (k := k + 1)
  simp only [cnt] at ih
  rw [List.length_cons, show k + (l.length + 1) = k + 1 + l.length by omega]
  simp only [gf7]
  split
  ·rename_i h
   rw [if_pos h] at ih
   simp only [List.length_cons]
   omega
  ·rename_i h
   rw [if_neg h] at ih
   omega
theorem og7 {m : List Bool} : ∀ {l : List Commit} {k j : Nat} {x : Commit}, l[j]? = some x → ge7 m (k + j) = true → (gf7 m l k)[cnt m (k + j) - cnt m k]? = some (A47 m x)
 | [], k, j, x, h, _ => by simp at h
 | y :: l, k, 0, x, h, ht => by
  simp only [List.getElem?_cons_zero, Option.some.injEq] at h
  subst h
  simp only [Nat.add_zero] at ht
  simp [gf7, ht]
 | y :: l, k, j + 1, x, h, ht => by
  rw [show k + (j + 1) = k + 1 + j by omega] at ht ⊢
  have ih := og7 (m := m) (l := l) (k := k + 1) (j := j) (by simpa using h) ht
  have hm := uL7 (m := m) (a := k + 1) (b := k + 1 + j) (by omega)
  simp only [cnt] at ih hm
  simp only [gf7]
  split
  ·rename_i hk
   rw [if_pos hk] at ih hm
   rw [show cnt m (k + 1 + j) - cnt m k = cnt m (k + 1 + j) - (cnt m k + 1) + 1 by omega, List.getElem?_cons_succ]
   exact ih
  ·rename_i hk
   rw [if_neg hk] at ih
   exact ih
theorem yN7 {m : List Bool} : ∀ {n j : Nat}, j < cnt m n → ∃ k, k < n ∧ ge7 m k = true ∧ cnt m k = j
 | 0, j, h => by simp [cnt] at h
 | n + 1, j, h => by
  by_cases hn : j < cnt m n
  ·obtain ⟨k, h1, h2, h3⟩ := yN7 hn
   exact ⟨k, by omega, h2, h3⟩
  ·simp only [cnt] at h
   split at h
   ·rename_i ht
    exact ⟨n, by omega, ht, by omega⟩
   ·omega
structure Kept (cs : List Commit) (m : List Bool) : Prop where
 hist : pw7 cs
 len : m.length = cs.length
 up : ∀ k x u, cs[k]? = some x → ge7 m k = true → u ∈ x.up → ge7 m u.toNat = true
section
variable {cs : List Commit} {m : List Bool}
theorem Kept.get (h : Kept cs m) {k : Nat} (hk : ge7 m k = true) : ∃ x, cs[k]? = some x ∧ (gf7 m cs 0)[cnt m k]? = some (A47 m x) := by
 obtain ⟨x, hx⟩ := gY7 (xs := cs) (i := k) (by rw [← h.len]; exact yM7 hk)
 have := og7 (m := m) (l := cs) (k := 0) (j := k) hx (by simpa using hk)
 simp only [Nat.zero_add, cnt, Nat.sub_zero] at this
 exact ⟨x, hx, this⟩
theorem Kept.tot (h : Kept cs m) : (gf7 m cs 0).length = cnt m cs.length := by
 have := of7 (m := m) (l := cs) (k := 0)
 simp only [Nat.zero_add, cnt] at this
 exact this
theorem Kept.from (h : Kept cs m) {j : Nat} {y : Commit} (hy : (gf7 m cs 0)[j]? = some y) : ∃ k x, ge7 m k = true ∧ cnt m k = j ∧ cs[k]? = some x ∧ y = A47 m x := by
 have := gC7 hy
 rw [h.tot] at this
 obtain ⟨k, h1, h2, h3⟩ := yN7 this
 obtain ⟨x, h4, h5⟩ := h.get h2
 rw [h3, hy] at h5
 exact ⟨k, x, h2, h3, h4, Option.some.inj h5⟩
theorem Kept.anc (h : Kept cs m) {a b : Nat} (ha : ge7 m a = true) (hab : Anc cs a b) : ge7 m b = true ∧ Anc (gf7 m cs 0) (cnt m a) (cnt m b) := by
 induction hab with
 | refl => exact ⟨ha, .refl _⟩
 | up _ hx hu ih =>
  rename_i c x u _
  obtain ⟨x', h1, h2⟩ := h.get ih.1
  rw [hx] at h1
  cases h1
  refine ⟨h.up _ _ _ hx ih.1 hu, ?_⟩
  exact Anc.up (u := (cnt m u.toNat : Int)) ih.2 h2 (List.mem_map.2 ⟨u, hu, rfl⟩)
end
theorem Fo7 {hs : List Head} {n : Str} (hn : n ∉ nm3) (h : ∀ z ∈ hs, z.name ∈ nm3) : aV7 hs n = -1 := by
 have key : ∀ (l : List Head) (k : Nat), (∀ z ∈ l, z.name ∈ nm3) → aK7 (fun y : Head => decide (y.name = n)) l k = -1 := by
  intro l
  induction l with
  | nil => intro k _; rfl
  | cons z l ih =>
   intro k hz
   have h1 := hz z (by simp)
   have h2 : z.name ≠ n := fun e => hn (e ▸ h1)
   simp only [aK7, decide_eq_true_eq, if_neg h2]
   exact ih (k + 1) fun y hy => hz y (by simp [hy])
 exact key hs 0 h
theorem yO7 {r : am7} {n : Str} {i : Nat} {z : Head} (hr : bp7 r = true) (hi : aV7 r.heads n = (i : Int)) (hz : r.heads[i]? = some z) : dY7 r n = z.at_ := by
 unfold dY7
 rw [if_pos hr, hi, ag7, hz]
theorem r17 {r : am7} {z : Head} : a37 ⟨r.commits, r.heads ++ [z]⟩ = a37 r + (1 + z.name.size) := by
 unfold a37
 have : wL gi7 (r.heads ++ [z]) = wL gi7 r.heads + (1 + z.name.size) := by
  unfold wL
  rw [iO7]
  simp [gi7]
  omega
 simp only [this]
 omega
theorem jC7 {r : am7} {k : Nat} {x : Commit} (hw : a37 r ≤ 1048576) (hx : r.commits[k]? = some x) : wL aZ7 x.sheet ≤ 1048576 := by
 have := bA7 (w := ay7) (List.mem_of_getElem? hx)
 have h3 : wL aZ7 x.sheet ≤ ay7 x := by unfold ay7; omega
 unfold a37 at hw
 have h4 : wL ay7 r.commits = r.commits.length + hW7 ay7 r.commits := rfl
 omega
structure Added (r : am7) (n t : Str) (s : List Feat) (i : Nat) (z : Head) (x : Commit) (q : am7) (k : Nat) : Prop where
 repo : bp7 r = true
 sheet : a97 s = true
 word : bb7 t = true
 hd : aV7 r.heads n = (i : Int)
 at_ : r.heads[i]? = some z
 name : z.name = n
 was : r.commits[z.at_.toNat]? = some x
 ge : 0 ≤ z.at_
 ne : x.sheet ≠ s
 eq : Qi7 r n s t = (q, 0)
 heads : q.heads = r.heads.set i ⟨z.name, (k : Int)⟩
 comm : (q.commits = r.commits ∧ k < r.commits.length) ∨ (q.commits = r.commits ++ [⟨[z.at_], s, t⟩] ∧ k = r.commits.length ∧ r.commits.length < 14)
 get : q.commits[k]? = some ⟨[z.at_], s, t⟩
 repo' : bp7 q = true
section
variable {r q : am7} {n t : Str} {s : List Feat} {i k : Nat} {z : Head} {x : Commit}
theorem Added.head (h : Added r n t s i z x q k) : aV7 q.heads n = (i : Int) ∧ q.heads[i]? = some ⟨z.name, (k : Int)⟩ := by
 rw [h.heads]
 refine ⟨?_, List.getElem?_set_self (gC7 h.at_)⟩
 rw [td7 (yJ7 h.at_)]
 exact h.hd
theorem Added.w (h : Added r n t s i z x q k) (hw : a37 r ≤ 1000000) (hs : wL aZ7 s ≤ 20000) (ht : t.size ≤ 7) : a37 q ≤ a37 r + 20010 := by
 have h1 := Mi7 (r := r) (n := n) (t := t) (s := s)
 rw [h.eq] at h1
 simp only at h1
 omega
end
theorem pp7 (r : am7) : (⟨r.commits, r.heads⟩ : am7) = r := rfl
theorem Anc.head' {cs : List Commit} {a b : Nat} (h : Anc cs a b) : a = b ∨ ∃ x u, cs[a]? = some x ∧ u ∈ x.up ∧ Anc cs u.toNat b := by
 induction h with
 | refl => exact .inl rfl
 | up h hx hu ih =>
  rename_i c x u
  rcases ih with rfl | ⟨y, v, h1, h2, h3⟩
  ·exact .inr ⟨x, u, hx, hu, .refl _⟩
  ·exact .inr ⟨y, v, h1, h2, h3.up hx hu⟩
theorem Fp7 {cs : List Commit} {k a j : Nat} {c : Commit} (hk : cs[k]? = some c) (hu : c.up = [(a : Int)]) : Anc cs k j ↔ k = j ∨ Anc cs a j := by
 constructor
 ·intro h
  rcases h.head' with h1 | ⟨x, u, h1, h2, h3⟩
  ·exact .inl h1
  ·rw [hk] at h1
   cases h1
   rw [hu] at h2
   simp only [List.mem_singleton] at h2
   subst h2
   exact .inr (by simpa using h3)
 ·rintro (rfl | h)
  ·exact .refl _
  ·have h1 : Anc cs k ((a : Int).toNat) := .up (.refl k) hk (by rw [hu]; simp)
   exact Anc.trans (by simpa using h1) h
theorem yP7 {cs e : List Commit} (hc : pw7 cs) {a b : Nat} (ha : a < cs.length) : Anc (cs ++ e) a b ↔ Anc cs a b := by
 constructor
 ·intro h
  have key : b < cs.length ∧ Anc cs a b := by
   induction h with
   | refl => exact ⟨ha, .refl _⟩
   | up h hx hu ih =>
    rename_i c x u
    rw [List.getElem?_append_left ih.1] at hx
    have := hc.lt _ _ hx u hu
    exact ⟨by omega, ih.2.up hx hu⟩
  exact key.2
 ·intro h
  induction h with
  | refl => exact .refl _
  | up h hx hu ih => exact ih.up (by rw [List.getElem?_append_left (gC7 hx)]; exact hx) hu
section
variable {r q : am7} {n t : Str} {s : List Feat} {i k : Nat} {z : Head} {x : Commit}
end
theorem pq7 {cs : List Commit} (h : df7 cs = true) : ∀ (n a : Nat), a ≤ n → a < cs.length → Anc cs a 0
 | n, 0, _, _ => .refl 0
 | 0, a + 1, h1, _ => by omega
 | n + 1, a + 1, h1, h2 => by
  obtain ⟨c, hc⟩ := gY7 h2
  have hu := (jv7 h hc).1
  have hlt := (Fc7 hu).1
  simp only [mUp, Bool.and_eq_true, beq_iff_eq] at hu
  have h3 : decide (0 < c.up.length) = true := by rw [hu.2.2.1]; simp
  have h3 := of_decide_eq_true h3
  obtain ⟨u, hu0⟩ := gY7 h3
  have hm := List.mem_of_getElem? hu0
  have h4 := hlt u hm
  exact (Anc.up (.refl (a + 1)) hc hm).trans (pq7 h n u.toNat (by omega) (by omega))
theorem kh7 {r : am7} (h : bp7 r = true) : df7 r.commits = true := by
 unfold bp7 at h
 simp only [Bool.and_eq_true] at h
 exact h.2.2.2.2.1
theorem oh7 {p : Nat → Bool} : ∀ {n k : Nat}, k < n → p k = true → ∃ m : Nat, (gl7 p n).head? = some (m : Int) ∧ m < n ∧ p m = true ∧ ∀ j : Nat, m < j → j < n → p j = false
 | 0, k, h, _ => by omega
 | n + 1, k, h, hp => by
  simp only [gl7]
  by_cases hn : p n = true
  ·rw [if_pos hn]
   exact ⟨n, rfl, by omega, hn, fun j h1 h2 => by omega⟩
  ·rw [if_neg hn]
   have hk : k < n := by
    rcases Nat.lt_or_ge k n with h1 | h1
    ·exact h1
    ·have : k = n := by omega
     subst this
     exact absurd hp hn
   obtain ⟨m, h1, h2, h3, h4⟩ := oh7 hk hp
   exact ⟨m, h1, by omega, h3, fun j h5 h6 => by
    rcases Nat.lt_or_ge j n with h7 | h7
    ·exact h4 j h5 h7
    ·have : j = n := by omega
     subst this
     simpa using hn⟩
theorem iR7 {r : am7} {a b : Int} (h : ¬ (inR r a && inR r b) = true) : cR7 r a b = -1 := by
 unfold cR7
 rw [if_neg h]
 rfl
theorem ki7 {r : am7} {a b : Nat} (hr : bp7 r = true) (ha : a < r.commits.length) (hb : b < r.commits.length) : ∃ k : Nat, cR7 r a b = (k : Int) ∧ k < r.commits.length ∧ Com r.commits a b k ∧ ∀ j, k < j → ¬ Com r.commits a b j := by
 have hc := dr7 hr
 have h1 : (inR r (a : Int) && inR r (b : Int)) = true := by unfold inR; rw [hr]; simp; omega
 have h0 : Com r.commits a b 0 := ⟨pq7 (kh7 hr) _ a (Nat.le_refl _) ha, pq7 (kh7 hr) _ b (Nat.le_refl _) hb⟩
 obtain ⟨i, hi, _⟩ := jx7 hc _ 0 (Nat.le_refl _) h0
 have hil : i < r.commits.length := by have := hi.1.1.le hc; omega
 obtain ⟨m, m1, m2, m3, m4⟩ := oh7 (p := fun k => @decide (mD7 r.commits a b k) (Classical.propDecidable _)) hil (by simpa using hi)
 refine ⟨m, ?_, m2, ?_, fun j hj hcm => ?_⟩
 ·unfold cR7
  rw [if_pos h1]
  simp only [Int.toNat_natCast]
  unfold oa7
  rw [m1]
  rfl
 ·have : mD7 r.commits a b m := by simpa using m3
  exact this.1
 ·obtain ⟨e, he, he2⟩ := jx7 hc _ j (Nat.le_refl _) hcm
  have h5 := he2.le hc
  have h6 : e < r.commits.length := by have := he.1.1.le hc; omega
  have h7 := m4 e (by omega) h6
  simp at h7
  exact h7 he
def nF : Feat := ⟨⟨#[]⟩, ⟨0, []⟩, []⟩
theorem kQ7 {α : Type} {p : α → Bool} : ∀ (l : List α) (k : Nat), (l.find? p = none ∧ aK7 p l k = -1) ∨ ∃ j x, l.find? p = some x ∧ aK7 p l k = ((k + j : Nat) : Int) ∧ l[j]? = some x ∧ p x = true
 | [], k => .inl ⟨rfl, rfl⟩
 | y :: l, k => by
  simp only [List.find?_cons, aK7]
  cases hp : p y
  ·rcases kQ7 (p := p) l (k + 1) with ⟨h1, h2⟩ | ⟨j, x, h1, h2, h3, h4⟩
   ·exact .inl ⟨h1, by simpa using h2⟩
   ·exact .inr ⟨j + 1, x, h1, by simp only [h2]; simp; omega, h3, h4⟩
  ·exact .inr ⟨0, y, rfl, by simp, rfl, hp⟩
def bH7 (s : List Feat) (id : Str) : Feat × Bool := match s.find? (fun f : Feat => decide (f.id = id)) with
 | some f => (f, true)
 | none => (nF, false)
theorem Bc7 {s : List Feat} {id : Str} (hl : s.length ≤ 1048576) : q67 s id = some (aK7 (fun f : Feat => decide (f.id = id)) s 0) := by
 unfold q67 ur7
 have h := mT7 (gl := fL7 id) (p := fun f : Feat => decide (f.id = id)) (ok := fun _ => True) (fun _ => rfl) (fun x l k _ => by simp only [fL7, uq7, bT7, Option.bind_some]) s 0 (fun _ _ => trivial)
 rw [if_pos (aa7 hl)]
 exact (congrArg (fun o => Option.bind o fun x2 => some x2) h)
theorem Bd7 {s : List Feat} {id : Str} (hl : s.length ≤ 1048576) : j47 s id = some (aK7 (fun f : Feat => decide (f.id = id)) s 0) := by
 unfold j47
 have h := mT7 (gl := ee7 id) (p := fun f : Feat => decide (f.id = id)) (ok := fun _ => True) (fun _ => rfl) (fun x l k _ => by simp only [ee7, bT7]) s 0 (fun _ _ => trivial)
 rw [if_pos (aa7 hl)]
 exact h
theorem Mm7 {s : List Feat} {id : Str} (h : wL aZ7 s ≤ 1048576) : q77 s id = some (bH7 s id) := by
 have hl : s.length ≤ 1048576 := by unfold wL at h; omega
 unfold q77 bH7
 rw [Bc7 hl, Option.bind_some]
 rcases kQ7 (p := fun f : Feat => decide (f.id = id)) s 0 with ⟨h1, h2⟩ | ⟨j, x, h1, h2, h3, h4⟩
 ·rw [h1, h2]; rfl
 ·have hx := bA7 (w := aZ7) (List.mem_of_getElem? h3)
  rw [h1, h2, if_neg (by simp), ag7, Nat.zero_add, h3, Option.bind_some, f47 (by unfold wL at h; omega)]
  rfl
theorem pr7 {s : List Feat} {id : Str} (h : wL aZ7 s ≤ 1048576) : lL7 s id = some (bH7 s id) := by
 have hl : s.length ≤ 1048576 := by unfold wL at h; omega
 unfold lL7 bH7
 rw [Bd7 hl, Option.bind_some]
 rcases kQ7 (p := fun f : Feat => decide (f.id = id)) s 0 with ⟨h1, h2⟩ | ⟨j, x, h1, h2, h3, h4⟩
 ·rw [h1, h2]; rfl
 ·have hx := bA7 (w := aZ7) (List.mem_of_getElem? h3)
  rw [h1, h2, if_neg (by simp), ag7, Nat.zero_add, h3, Option.bind_some, kP7 (by unfold wL at h; omega)]
  rfl
def m57 (s : List Feat) (id : Str) : List Feat := s.filter fun y => !decide (y.id = id)
def hY7 (f : Feat) : List Feat → List Feat
 | [] => [f]
 | x :: l => if slt x.id f.id = true then x :: hY7 f l else f :: m57 (x :: l) f.id
theorem uM7 {a b : Str} (h : slt a b = true) : a ≠ b := fun e => by
 rw [e, slt_sw.irrefl] at h
 cases h
theorem jD7 {x : Feat} {l : List Feat} {id : Str} : m57 (x :: l) id = if x.id = id then m57 l id else x :: m57 l id := by
 unfold m57
 rw [List.filter_cons]
 by_cases h : x.id = id <;> simp [h]
theorem kR7 {f : Feat} : ∀ (l : List Feat) (k : Nat) (v : List Feat), v.length + l.length ≤ 1048576 → ct7 f l k true v = some (true, v ++ m57 l f.id)
 | [], k, v, _ => by simp [ct7, m57]
 | x :: l, k, v, h => by
  simp only [List.length_cons] at h
  simp only [ct7, bT7, Bool.not_true, Bool.false_eq_true, if_false, Option.bind_some]
  rw [jD7]
  by_cases e : x.id = f.id
  ·rw [if_neg (by simp [e]), kR7 l (k + 1) v (by omega), if_pos e]
  ·rw [if_pos (by simp [e]), if_pos (aa7 (by simp; omega)), kR7 l (k + 1) _ (by simp; omega), if_neg e]
   simp
theorem uN7 {f : Feat} : ∀ (l : List Feat) (k : Nat) (v : List Feat), v.length + l.length + 1 ≤ 1048576 → ∃ d o, ct7 f l k false v = some (d, o) ∧ (if d = true then o else o ++ [f]) = v ++ hY7 f l
 | [], k, v, _ => ⟨false, v, rfl, by simp [hY7]⟩
 | x :: l, k, v, h => by
  simp only [List.length_cons] at h
  simp only [ct7, bT7, Bool.not_false, if_true, hY7]
  by_cases e : slt x.id f.id = true
  ·have hn := uM7 e
   obtain ⟨d, o, h1, h2⟩ := uN7 l (k + 1) (v ++ [x]) (by simp; omega)
   refine ⟨d, o, ?_, by rw [h2, if_pos e]; simp⟩
   rw [if_neg (by simp [e]), Option.bind_some]
   simp only
   rw [if_pos (by simp [hn]), if_pos (aa7 (by simp; omega)), h1]
  ·rw [if_pos (by simpa using e), if_pos (aa7 (by simp; omega)), Option.bind_some]
   simp only
   rw [if_neg e, jD7]
   by_cases e2 : x.id = f.id
   ·rw [if_neg (by simp [e2]), kR7 l (k + 1) _ (by simp; omega), if_pos e2]
    exact ⟨true, _, rfl, by simp⟩
   ·rw [if_pos (by simp [e2]), if_pos (aa7 (by simp; omega)), kR7 l (k + 1) _ (by simp; omega), if_neg e2]
    exact ⟨true, _, rfl, by simp⟩
theorem iS7 {f : Feat} : ∀ (l : List Feat), (hY7 f l).length ≤ l.length + 1
 | [] => by simp [hY7]
 | x :: l => by
  have := iS7 (f := f) l
  have h2 : (m57 (x :: l) f.id).length ≤ (x :: l).length := List.length_filter_le _ _
  unfold hY7
  split
  ·simp only [List.length_cons]; omega
  ·simp only [List.length_cons] at h2 ⊢; omega
theorem yQ7 {s : List Feat} {f : Feat} (h : s.length + 1 ≤ 1048576) : f97 s f = some (hY7 f s) := by
 obtain ⟨d, o, h1, h2⟩ := uN7 (f := f) s 0 [] (by simp; omega)
 have h3 := iS7 (f := f) s
 simp only [List.nil_append] at h2
 unfold f97
 rw [if_pos (aa7 (by omega)), h1, Option.bind_some]
 cases d
 ·simp only [Bool.not_false, if_true]
  simp only [Bool.false_eq_true, if_false] at h2
  rw [if_pos (aa7 (by rw [h2]; omega)), h2]
 ·simp only [if_true] at h2
  simp [h2]
def Pw (v : List Feat) : Prop := v.Pairwise fun a b => slt a.id b.id = true
theorem uO7 {f : Feat} : ∀ {l : List Feat} {y : Feat}, y ∈ hY7 f l → y = f ∨ y ∈ l
 | [], y, h => by simpa [hY7] using h
 | x :: l, y, h => by
  unfold hY7 at h
  split at h
  ·rcases List.mem_cons.1 h with h | h
   ·exact .inr (by simp [h])
   ·rcases uO7 h with h | h
    ·exact .inl h
    ·exact .inr (by simp [h])
  ·rcases List.mem_cons.1 h with h | h
   ·exact .inl h
   ·exact .inr (List.mem_filter.1 h).1
theorem yR7 {f : Feat} : ∀ {l : List Feat}, Pw l → Pw (hY7 f l)
 | [], _ => by simp [hY7, Pw]
 | x :: l, h => by
  unfold Pw at h
  rw [List.pairwise_cons] at h
  unfold hY7
  by_cases e : slt x.id f.id = true
  ·rw [if_pos e]
   unfold Pw
   rw [List.pairwise_cons]
   refine ⟨fun y hy => ?_, yR7 h.2⟩
   rcases uO7 hy with rfl | hy
   ·exact e
   ·exact h.1 y hy
  ·rw [if_neg e]
   unfold Pw
   rw [List.pairwise_cons]
   refine ⟨fun y hy => ?_, List.Pairwise.filter _ (List.pairwise_cons.2 h)⟩
   obtain ⟨hy, hn⟩ := List.mem_filter.1 hy
   simp only [Bool.not_eq_true', decide_eq_false_iff_not] at hn
   have hf : slt x.id f.id = false := by simpa using e
   have hxy : slt y.id f.id = false := by
    rcases List.mem_cons.1 hy with rfl | hy
    ·exact hf
    ·cases h2 : slt y.id f.id
     ·rfl
     ·rw [slt_sw.trans _ _ _ (h.1 y hy) h2] at hf; cases hf
   cases h3 : slt f.id y.id
   ·exact absurd (oQ7 hxy h3) hn
   ·rfl
theorem r27 {f : Feat} : ∀ {l : List Feat}, (hY7 f l).Perm (f :: m57 l f.id)
 | [] => by simp [hY7, m57]
 | x :: l => by
  unfold hY7
  by_cases e : slt x.id f.id = true
  ·rw [if_pos e, jD7, if_neg (uM7 e)]
   exact (List.Perm.cons x r27).trans (List.Perm.swap f x _)
  ·rw [if_neg e]
theorem yS7 {s : List Feat} (h : a97 s = true) : Pw s := by
 unfold a97 at h
 rw [Bool.and_eq_true] at h
 have key : ∀ k x y, s[k]? = some x → s[k + 1]? = some y → slt x.id y.id = true := by
  intro k x y hx hy
  have := cf7 h.1 (k + 1) y hy
  simp only [Nat.zero_add, Bool.and_eq_true, Bool.or_eq_true, decide_eq_true_eq, km7, Nat.add_sub_cancel, hx] at this
  rcases this.2 with h | h
  ·omega
  ·exact h
 clear h
 induction s with
 | nil => exact List.Pairwise.nil
 | cons a s ih =>
  have ih := ih fun k x y hx hy => key (k + 1) x y hx hy
  unfold Pw
  rw [List.pairwise_cons]
  refine ⟨?_, ih⟩
  cases s with
  | nil => intro y hy; cases hy
  | cons b s =>
   have h1 := key 0 a b rfl rfl
   have ih2 := ih
   unfold Pw at ih2
   rw [List.pairwise_cons] at ih2
   intro y hy
   rcases List.mem_cons.1 hy with rfl | hy
   ·exact h1
   ·exact slt_sw.trans _ _ _ h1 (ih2.1 y hy)
theorem oi7 {s : List Feat} {id : Str} : aZ7 (bH7 s id).1 ≤ wL aZ7 s := by
 unfold bH7
 split
 ·rename_i f hf
  have := bA7 (w := aZ7) (List.mem_of_find?_eq_some hf)
  unfold wL
  simp only
  omega
 ·exact Nat.zero_le _
theorem mp7 {f : Feat} (h : bM7 f = true) : aZ7 f ≤ 100 := by
 unfold bM7 dq7 qu7 at h
 simp only [Bool.and_eq_true, decide_eq_true_eq] at h
 obtain ⟨h1, ⟨h2, h3, h4⟩, h5, h6⟩ := h
 have a1 := ck7 h1
 have a2 : hW7 sN7 f.tags ≤ 14 * f.tags.length := jz7 fun t ht => by
  obtain ⟨j, hj⟩ := Ml7 h5 ht
  simp only [Bool.and_eq_true] at hj
  have b1 := ck7 hj.1
  have b2 := ck7 hj.2.1
  unfold sN7
  omega
 have a3 := qr7 f.shape.pts
 unfold aZ7 hg7 wL
 omega
def SPw (v : List Str) : Prop := v.Pairwise fun a b => slt a b = true
theorem r37 {v : List Str} (h : SPw v) : v.Nodup := List.Pairwise.imp (fun h => uM7 h) h
theorem yT7 {a b : List Str} (ha : SPw a) (hb : SPw b) (h : ∀ x, x ∈ a ↔ x ∈ b) : a = b := by
 have hp : a.Perm b := (List.perm_ext_iff_of_nodup (r37 ha) (r37 hb)).2 h
 refine List.Perm.eq_of_pairwise (le := fun a b => slt a b = true) (fun x y _ _ g1 g2 => ?_) ha hb hp
 have := slt_sw.trans _ _ _ g1 g2
 rw [slt_sw.irrefl] at this
 cases this
theorem r47 (a b c : Str) : leS a b = true → leS b c = true → leS a c = true := by
 unfold leS
 simp only [Bool.not_eq_true']
 exact fun h1 h2 => slt_sw.ntrans _ _ _ h2 h1
theorem r57 (a b : Str) : (leS a b || leS b a) = true := by
 unfold leS
 cases h : slt b a
 ·rfl
 ·cases h2 : slt a b
  ·rfl
  ·have := slt_sw.trans _ _ _ h h2
   rw [slt_sw.irrefl] at this
   cases this
theorem yU7 {a b : Str} (h : leS a b = true) (hn : a ≠ b) : slt a b = true := by
 unfold leS at h
 cases h2 : slt a b
 ·exact absurd (oQ7 h2 (by simpa using h)) hn
 ·rfl
theorem Cp7 {a b c : Str} (h : leS a b = true) (h2 : slt b c = true) : slt a c = true := by
 by_cases e : a = b
 ·rw [e]; exact h2
 ·exact slt_sw.trans _ _ _ (yU7 h e) h2
theorem uP7 {xs : List Str} {y : Str} : y ∈ Go.Lib.compact xs ↔ y ∈ xs := by
 unfold Go.Lib.compact Go.Lib.compactUpTo
 rw [List.mem_map]
 constructor
 ·rintro ⟨j, hj, rfl⟩
  rw [List.mem_filter, List.mem_range] at hj
  rw [getElem!_pos _ j (by simpa using hj.1)]
  simp
 ·intro h
  obtain ⟨j, hj⟩ := List.mem_iff_getElem?.1 h
  induction j using Nat.strongRecOn with
  | _ j ih =>
   have hl := (List.getElem?_eq_some_iff.1 hj).1
   have he := (List.getElem?_eq_some_iff.1 hj).2
   by_cases hk : j = 0 ∨ xs.toArray[j]! ≠ xs.toArray[j - 1]!
   ·refine ⟨j, ?_, ?_⟩
    ·rw [List.mem_filter, List.mem_range]
     exact ⟨hl, by unfold Go.Lib.keeps; exact decide_eq_true hk⟩
    ·rw [getElem!_pos _ j (by simpa using hl)]
     simpa using he
   ·have h0 : j ≠ 0 := fun e => hk (.inl e)
    have h1 : xs.toArray[j]! = xs.toArray[j - 1]! := Classical.not_not.1 fun e => hk (.inr e)
    rw [getElem!_pos _ j (by simpa using hl), getElem!_pos _ (j - 1) (by simp; omega)] at h1
    simp only [List.getElem_toArray] at h1
    refine ih (j - 1) (by omega) ?_
    rw [List.getElem?_eq_getElem (by omega), ← h1, he]
theorem yV7 {xs : List Str} (h : xs.Pairwise fun a b => leS a b = true) : SPw (Go.Lib.compact xs) := by
 unfold Go.Lib.compact Go.Lib.compactUpTo SPw
 rw [List.pairwise_map, List.pairwise_filter]
 have hr := List.pairwise_lt_range (n := xs.length)
 refine List.Pairwise.imp_of_mem (fun {i j} hi hj hij _ hk => ?_) hr
 rw [List.mem_range] at hi hj
 rw [List.pairwise_iff_getElem] at h
 unfold Go.Lib.keeps at hk
 have hk := of_decide_eq_true hk
 rw [getElem!_pos _ i (by simpa using hi), getElem!_pos _ j (by simpa using hj)]
 rw [getElem!_pos _ j (by simpa using hj), getElem!_pos _ (j - 1) (by simp; omega)] at hk
 simp only [List.getElem_toArray] at hk ⊢
 have hne : xs[j] ≠ xs[j - 1] := by
  rcases hk with hk | hk
  ·omega
  ·exact hk
 have h1 : slt xs[j - 1] xs[j] = true := yU7 (h (j - 1) j (by omega) hj (by omega)) (Ne.symm hne)
 by_cases e : i = j - 1
 ·subst e; exact h1
 ·exact Cp7 (h i (j - 1) hi (by omega) (by omega)) h1
def FM7 (a b : List Feat) : List Str := (b.foldl (fun v x => hY7 x v) a).map (·.id)
theorem yW7 {f : Feat} : ∀ {l : List Feat} {i : Str}, i ∈ (hY7 f l).map (·.id) ↔ i = f.id ∨ i ∈ l.map (·.id) := by
 intro l i
 have hp := (r27 (f := f) (l := l)).map (·.id)
 rw [hp.mem_iff, List.map_cons, List.mem_cons]
 constructor
 ·rintro (h | h)
  ·exact .inl h
  ·obtain ⟨y, hy, e⟩ := List.mem_map.1 h
   exact .inr (List.mem_map.2 ⟨y, (List.mem_filter.1 hy).1, e⟩)
 ·rintro (h | h)
  ·exact .inl h
  ·by_cases e : i = f.id
   ·exact .inl e
   ·obtain ⟨y, hy, e2⟩ := List.mem_map.1 h
    refine .inr (List.mem_map.2 ⟨y, List.mem_filter.2 ⟨hy, ?_⟩, e2⟩)
    have : ¬ y.id = f.id := fun e3 => e (by rw [← e2, e3])
    simp [this]
theorem ps7 : ∀ {b a : List Feat} {i : Str}, i ∈ (b.foldl (fun v x => hY7 x v) a).map (·.id) ↔ i ∈ a.map (·.id) ∨ i ∈ b.map (·.id)
 | [], a, i => by simp
 | x :: b, a, i => by
  rw [List.foldl_cons, ps7, yW7, List.map_cons, List.mem_cons]
  constructor
  ·rintro ((h | h) | h)
   ·exact .inr (.inl h)
   ·exact .inl h
   ·exact .inr (.inr h)
  ·rintro (h | h | h)
   ·exact .inl (.inr h)
   ·exact .inl (.inl h)
   ·exact .inr h
theorem tf7 : ∀ {b a : List Feat}, Pw a → Pw (b.foldl (fun v x => hY7 x v) a)
 | [], a, h => h
 | x :: b, a, h => tf7 (b := b) (yR7 h)
theorem Fq7 {a b : List Feat} (h : Pw a) : SPw (FM7 a b) := by
 unfold FM7 SPw
 rw [List.pairwise_map]
 exact tf7 h
theorem Be7 {a b : List Feat} (ha : a.length + b.length ≤ 1000) : qJ7 a b = some (FM7 a b) := by
 have k1 : ∀ (l : List Feat) (k : Nat) (v : List Feat), v.length + l.length ≤ 1000 → fw7 l k v = some (l.foldl (fun v x => hY7 x v) v) ∧ (l.foldl (fun v x => hY7 x v) v).length ≤ v.length + l.length := by
  intro l
  induction l with
  | nil => intro k v _; exact ⟨rfl, by simp⟩
  | cons x l ih =>
   intro k v h
   simp only [List.length_cons] at h
   have hp := iS7 (f := x) v
   obtain ⟨h1, h2⟩ := ih (k + 1) (hY7 x v) (by omega)
   exact ⟨by simp only [fw7, yQ7 (s := v) (f := x) (by omega), Option.bind_some, h1, List.foldl_cons], by simp only [List.length_cons, List.foldl_cons]; omega⟩
 have k2 : ∀ (l : List Feat) (k : Nat) (v : List Str), v.length + l.length ≤ 1000 → ed7 l k v = some (v ++ l.map (·.id)) := by
  intro l
  induction l with
  | nil => intro k v _; simp [ed7]
  | cons x l ih =>
   intro k v h
   simp only [List.length_cons] at h
   simp only [ed7]
   rw [if_pos (aa7 (by simp; omega)), ih _ _ (by simp; omega)]
   simp
 obtain ⟨h1, h2⟩ := k1 b 0 a (by omega)
 unfold qJ7
 rw [if_pos (aa7 (by omega)), h1, Option.bind_some, if_pos (aa7 (by omega)), k2 _ 0 [] (by simp; omega)]
 rfl
def pt7 (a b : List Pt) : Int := (bd7 a b 0).headD 0
theorem tg7 (a b : List Pt) (i : Nat) : bd7 (a.drop i) b 0 = bd7 a b i := by
 unfold bd7
 rw [List.drop_zero]
theorem r67 (x : Pt) : ∀ (b : List Pt) (ls : List Int) (j : Nat), j ≤ b.length → (mS7 x b ls).drop j = mS7 x (b.drop j) (ls.drop j)
 | b, ls, 0, h => by simp
 | [], ls, j + 1, h => by simp at h
 | y :: b, ls, j + 1, h => by
  have h : j ≤ b.length := by simpa using h
  simp only [mS7, List.drop_succ_cons]
  rw [r67 x b ls.tail j h]
  congr 1
  cases ls <;> simp
theorem r77 (b : List Pt) (j : Nat) (hj : j ≤ b.length) : ∀ a : List Pt, (bd7 a b 0).drop j = bd7 a (b.drop j) 0
 | [] => by
  rw [show bd7 [] b 0 = List.replicate (b.length + 1) 0 from rfl, show bd7 [] (b.drop j) 0 = List.replicate ((b.drop j).length + 1) 0 from rfl, List.drop_replicate, List.length_drop]
  congr 1
  omega
 | x :: a => by
  have ih := r77 b j hj a
  have e : ∀ c, bd7 (x :: a) c 0 = mS7 x c (bd7 a c 0) := fun c => rfl
  rw [e, e, r67 x b _ j hj, ih]
theorem th7 {a b : List Pt} {i j : Nat} (hj : j ≤ b.length) : (bd7 a b i)[j]? = some (pt7 (a.drop i) (b.drop j)) := by
 have e : (bd7 a b i)[j]? = ((bd7 a b i).drop j)[0]? := by simp
 rw [e, ← tg7, r77 b j hj]
 unfold pt7
 have h : (bd7 (a.drop i) (b.drop j) 0).length = (b.drop j).length + 1 := e17 _ _ (Nat.zero_le _)
 cases hc : bd7 (a.drop i) (b.drop j) 0 with
 | nil => rw [hc] at h; simp at h
 | cons v l => rfl
theorem uQ7 {a b : List Pt} {i : Nat} (hi : i ≤ a.length) : (v97 a b)[i]? = some (bd7 a b i) := by
 rw [lD7, List.getElem?_map, List.getElem?_range (by omega)]
 rfl
theorem wr1 {z : Int} (h0 : -100000 ≤ z) (h1 : z ≤ 100000) : IntKind.i64.wrap z = z := aP7 (by omega) (by omega)
theorem Fr7 {a b : Int} : qK7 a b = some (max a b) := by
 unfold qK7
 by_cases h : a > b
 ·rw [if_pos (decide_eq_true h)]
  congr 1
  omega
 ·rw [if_neg (by simpa using h)]
  congr 1
  omega
theorem uR7 {L : List Int} {j : Nat} {v : Int} (h : L[j]? = some v) : (List.replicate (j + 1) 0 ++ L.drop (j + 1)).set j v = List.replicate j 0 ++ L.drop j := by
 obtain ⟨h1, h2⟩ := List.getElem?_eq_some_iff.1 h
 rw [List.drop_eq_getElem_cons h1, h2, List.replicate_succ', List.append_assoc, List.set_append_right _ _ (by simp)]
 simp
theorem Mn7 {a b : List Pt} {i : Nat} (hi : i < a.length) (ha : a.length ≤ 1000) (hb : b.length ≤ 1000) : ∀ (q N : Nat), q < N → q ≤ b.length → dA7 a (i : Int) b (bd7 a b (i + 1)) N ((q : Int) - 1) (List.replicate q 0 ++ (bd7 a b i).drop q) = some (bd7 a b i)
 | 0, N + 1, h, hq => by
  simp only [dA7]
  rw [if_neg (by simp)]
  simp
 | j + 1, N + 1, h, hq => by
  have hx := List.getElem?_eq_getElem hi
  have hy := List.getElem?_eq_getElem (show j < b.length by omega)
  have hst := e07 (b := b) hx
  have hget := oR7 a[i] b (bd7 a b (i + 1)) j _ hy
  rw [← hst] at hget
  have hLi := e17 a b (show i ≤ a.length by omega)
  have hLj := e17 a b (show i + 1 ≤ a.length by omega)
  have hv1 := List.getElem?_eq_getElem (show j + 1 < (bd7 a b (i + 1)).length by omega)
  have hv0 := List.getElem?_eq_getElem (show j < (bd7 a b (i + 1)).length by omega)
  have hv2 := List.getElem?_eq_getElem (show j + 1 < (bd7 a b i).length by omega)
  have hb1 := sR7 a b _ (i + 1) (by omega) rfl _ _ hv1
  have e0 : ((j + 1 : Nat) : Int) - 1 = (j : Int) := by omega
  have e1 : IntKind.i64.wrap ((j : Int) + 1) = ((j + 1 : Nat) : Int) := by rw [wr1 (by omega) (by omega)]; omega
  have e2 : IntKind.i64.wrap ((j : Int) - 1) = (j : Int) - 1 := wr1 (by omega) (by omega)
  have hu : (List.replicate (j + 1) 0 ++ (bd7 a b i).drop (j + 1))[j]? = some 0 := by
   rw [List.getElem?_append_left (by simp), List.getElem?_replicate, if_pos (by omega)]
  have hu2 : (List.replicate (j + 1) 0 ++ (bd7 a b i).drop (j + 1))[j + 1]? = some (bd7 a b i)[j + 1] := by
   rw [List.getElem?_append_right (by simp)]
   simp
  rw [hv1, hv0, hv2] at hget
  simp only [Option.getD_some] at hget
  simp only [dA7]
  rw [e0, if_pos (decide_eq_true (by omega)), ag7, hx, Option.bind_some, ag7, hy, Option.bind_some, e1, e2]
  have ih := Mn7 hi ha hb j N (by omega) (by omega)
  split
  ·rename_i hp
   rw [if_pos hp] at hget
   rw [ag7, hv1, Option.bind_some, ag7, hu, Option.bind_some, wr1 (by omega) (by omega), Int.toNat_natCast, uR7 hget]
   exact ih
  ·rename_i hp
   rw [if_neg hp] at hget
   rw [ag7, hv0, Option.bind_some, ag7, hu2, Option.bind_some, Fr7, Option.bind_some, ag7, hu, Option.bind_some, Int.toNat_natCast, uR7 hget]
   exact ih
theorem Mo7 {a b : List Pt} (ha : a.length ≤ 1000) (hb : b.length ≤ 1000) : ∀ (m N : Nat), m < N → m ≤ a.length → ef7 b a N ((m : Int) - 1) (bd7 a b m) = some (bd7 a b 0)
 | 0, N + 1, h, hm => by
  simp only [ef7]
  rw [if_neg (by simp)]
 | i + 1, N + 1, h, hm => by
  have e0 : ((i + 1 : Nat) : Int) - 1 = (i : Int) := by omega
  have e1 : IntKind.i64.wrap ((b.length : Int) + 1) = ((b.length + 1 : Nat) : Int) := by rw [wr1 (by omega) (by omega)]; omega
  have e2 : IntKind.i64.wrap ((b.length : Int) - 1) = (b.length : Int) - 1 := wr1 (by omega) (by omega)
  have e3 : IntKind.i64.wrap ((i : Int) - 1) = (i : Int) - 1 := wr1 (by omega) (by omega)
  have hl := nI7 a b (show i ≤ a.length by omega)
  obtain ⟨h1, h2⟩ := List.getElem?_eq_some_iff.1 hl
  have hLi := e17 a b (show i ≤ a.length by omega)
  have e4 : List.replicate (b.length + 1) (0 : Int) = List.replicate b.length 0 ++ (bd7 a b i).drop b.length := by
   rw [List.drop_eq_getElem_cons h1, h2, List.drop_eq_nil_of_le (by omega), List.replicate_succ']
  have h5 := Mn7 (show i < a.length by omega) ha hb b.length aT7 (by unfold aT7; omega) (Nat.le_refl _)
  simp only [ef7]
  rw [e0, if_pos (decide_eq_true (by omega)), e1, e2, Int.toNat_natCast, if_pos (by rw [aa7 (by omega), Bool.and_true]; exact decide_eq_true (by omega)), e4, h5, Option.bind_some, e3]
  exact Mo7 ha hb i N (by omega) (by omega)
theorem uS7 {a b : List Pt} (ha : a.length ≤ 1000) (hb : b.length ≤ 1000) : nL7 a b = some (pt7 a b) := by
 have e1 : IntKind.i64.wrap ((b.length : Int) + 1) = ((b.length + 1 : Nat) : Int) := by rw [wr1 (by omega) (by omega)]; omega
 have e2 : IntKind.i64.wrap ((a.length : Int) - 1) = (a.length : Int) - 1 := wr1 (by omega) (by omega)
 unfold nL7
 have h4 := Mo7 ha hb a.length aT7 (by unfold aT7; omega) (Nat.le_refl _)
 rw [gv7] at h4
 have h0 := th7 (a := a) (b := b) (i := 0) (Nat.zero_le b.length)
 rw [e1, e2, Int.toNat_natCast, if_pos (by rw [aa7 (by omega), Bool.and_true]; exact decide_eq_true (by omega)), h4, Option.bind_some, show idx (bd7 a b 0) 0 = (bd7 a b 0)[0]? from ag7 (k := 0), h0]
 rfl
def prs (a b : List Pt) : Nat → Nat → Nat → List cK7
 | 0, _, _ => []
 | n + 1, i, k => match a[i]?, b[k]? with
  | some x, some y => if x = y then ⟨(i : Int), (k : Int)⟩ :: prs a b n (i + 1) (k + 1) else if pt7 (a.drop i) (b.drop (k + 1)) ≤ pt7 (a.drop (i + 1)) (b.drop k) then prs a b n (i + 1) k else prs a b n i (k + 1)
  | _, _ => []
def gG7 (a b : List Pt) : List cK7 := prs a b (a.length + b.length) 0 0
theorem pu7 {a b : List Pt} {n i k : Nat} (h : a.length ≤ i ∨ b.length ≤ k) : prs a b n i k = [] := by
 cases n with
 | zero => rfl
 | succ n =>
  rcases h with h | h
  ·simp only [prs, List.getElem?_eq_none h]
  ·simp only [prs, List.getElem?_eq_none h]
   cases a[i]? <;> rfl
theorem Bf7 {a b : List Pt} (ha : a.length ≤ 12) (hb : b.length ≤ 12) : ∀ (n N i k : Nat) (acc : List cK7), n < N → a.length + b.length ≤ n + i + k → i ≤ a.length → k ≤ b.length → acc.length ≤ i → dC7 a b (v97 a b) N (i : Int) (k : Int) acc = some (acc ++ prs a b n i k)
 | n, N + 1, i, k, acc, hN, hn, hi, hk, hacc => by
  simp only [dC7]
  by_cases h1 : i < a.length
  case neg =>
   rw [if_neg (by simp; omega), pu7 (.inl (by omega)), List.append_nil]
  by_cases h2 : k < b.length
  case neg =>
   rw [if_pos (decide_eq_true (by omega)), if_neg (by simp; omega), pu7 (.inr (by omega)), List.append_nil]
  have hx := List.getElem?_eq_getElem h1
  have hy := List.getElem?_eq_getElem h2
  have e1 : IntKind.i64.wrap ((i : Int) + 1) = ((i + 1 : Nat) : Int) := by rw [wr1 (by omega) (by omega)]; omega
  have e2 : IntKind.i64.wrap ((k : Int) + 1) = ((k + 1 : Nat) : Int) := by rw [wr1 (by omega) (by omega)]; omega
  obtain ⟨n, rfl⟩ : ∃ m, n = m + 1 := ⟨n - 1, by omega⟩
  rw [if_pos (decide_eq_true (by omega)), if_pos (decide_eq_true (by omega)), ag7, hx, Option.bind_some, ag7, hy, Option.bind_some, ptb, e1, e2]
  simp only [prs, hx, hy]
  by_cases he : a[i] = b[k]
  ·rw [if_pos (decide_eq_true he), if_pos he, if_pos (aa7 (by simp; omega)), Bf7 ha hb n N (i + 1) (k + 1) _ (by omega) (by omega) (by omega) (by omega) (by simp; omega)]
   simp
  ·rw [if_neg (by simp [he]), if_neg he, ag7, uQ7 (by omega), Option.bind_some, ag7, th7 (by omega), Option.bind_some, ag7, uQ7 (by omega), Option.bind_some, ag7, th7 (by omega), Option.bind_some]
   by_cases hg : pt7 (a.drop i) (b.drop (k + 1)) ≤ pt7 (a.drop (i + 1)) (b.drop k)
   ·rw [if_pos (decide_eq_true hg), if_pos hg]
    exact Bf7 ha hb n N (i + 1) k acc (by omega) (by omega) (by omega) (by omega) (by omega)
   ·rw [if_neg (by simpa using hg), if_neg hg]
    exact Bf7 ha hb n N i (k + 1) acc (by omega) (by omega) (by omega) (by omega) (by omega)
theorem gH7 {α : Type} {xs : List α} {i : Nat} (h : i ≤ xs.length) : slc xs (i : Int) (xs.length : Int) = some (xs.drop i) := by
 unfold slc
 rw [if_pos ⟨by omega, by omega, by omega⟩]
 simp
theorem kj7 {α : Type} {xs : List α} {i j : Nat} (h : i ≤ j) (hj : j ≤ xs.length) : slc xs (i : Int) (j : Int) = some ((xs.take j).drop i) := by
 unfold slc
 rw [if_pos ⟨by omega, by omega, by omega⟩]
 simp
theorem Fs7 {a b : List Pt} : qL7 a b = some (decide (a.length ≤ 12) && decide (b.length ≤ 12)) := by
 unfold qL7
 rw [show decide ((a.length : Int) ≤ 12) = decide (a.length ≤ 12) from DS7, show decide ((b.length : Int) ≤ 12) = decide (b.length ≤ 12) from DS7]
 by_cases h : a.length ≤ 12 <;> simp [h]
theorem Bg7 {a b : List Pt} (ha : a.length ≤ 12) (hb : b.length ≤ 12) : ∀ (n N i k : Nat) (acc : List cK7), n < N → a.length + b.length ≤ n + i + k → i ≤ a.length → k ≤ b.length → acc.length ≤ i → dB7 a b N (i : Int) (k : Int) acc = some (acc ++ prs a b n i k)
 | n, N + 1, i, k, acc, hN, hn, hi, hk, hacc => by
  simp only [dB7]
  by_cases h1 : i < a.length
  case neg =>
   rw [if_neg (by simp; omega), pu7 (.inl (by omega)), List.append_nil]
  by_cases h2 : k < b.length
  case neg =>
   rw [if_pos (decide_eq_true (by omega)), if_neg (by simp; omega), pu7 (.inr (by omega)), List.append_nil]
  have hx := List.getElem?_eq_getElem h1
  have hy := List.getElem?_eq_getElem h2
  have e1 : IntKind.i64.wrap ((i : Int) + 1) = ((i + 1 : Nat) : Int) := by rw [wr1 (by omega) (by omega)]; omega
  have e2 : IntKind.i64.wrap ((k : Int) + 1) = ((k + 1 : Nat) : Int) := by rw [wr1 (by omega) (by omega)]; omega
  obtain ⟨n, rfl⟩ : ∃ m, n = m + 1 := ⟨n - 1, by omega⟩
  rw [if_pos (decide_eq_true (by omega)), if_pos (decide_eq_true (by omega)), Fs7, Option.bind_some, if_pos (by simp [ha, hb]), ag7, hx, Option.bind_some, ag7, hy, Option.bind_some, ptb, e1, e2]
  simp only [prs, hx, hy]
  by_cases he : a[i] = b[k]
  ·rw [if_pos (decide_eq_true he), if_pos he, if_pos (aa7 (by simp; omega)), Bg7 ha hb n N (i + 1) (k + 1) _ (by omega) (by omega) (by omega) (by omega) (by simp; omega)]
   simp
  ·have d1 : ∀ i, (a.drop i).length ≤ 1000 := fun i => by rw [List.length_drop]; omega
   have d2 : ∀ i, (b.drop i).length ≤ 1000 := fun i => by rw [List.length_drop]; omega
   rw [if_neg (by simp [he]), if_neg he, gH7 (by omega), Option.bind_some, gH7 (by omega), Option.bind_some, uS7 (d1 _) (d2 _), Option.bind_some, gH7 (by omega), Option.bind_some, gH7 (by omega), Option.bind_some, uS7 (d1 _) (d2 _), Option.bind_some]
   by_cases hg : pt7 (a.drop i) (b.drop (k + 1)) ≤ pt7 (a.drop (i + 1)) (b.drop k)
   ·rw [if_pos (decide_eq_true hg), if_pos hg]
    exact Bg7 ha hb n N (i + 1) k acc (by omega) (by omega) (by omega) (by omega) (by omega)
   ·rw [if_neg (by simpa using hg), if_neg hg]
    exact Bg7 ha hb n N i (k + 1) acc (by omega) (by omega) (by omega) (by omega) (by omega)
theorem oj7 {a b : List Pt} (ha : a.length ≤ 12) (hb : b.length ≤ 12) : nV7 a b = some (gG7 a b) := by
 unfold nV7 Ce7
 rw [if_neg (by simp; omega), if_neg (by simp; omega)]
 have h : vz7 a b = some (v97 a b) := by
  unfold vz7
  rw [if_pos (by simp; omega)]
 have h2 := Bf7 ha hb (a.length + b.length) aT7 0 0 [] (by unfold aT7; omega) (by omega) (by omega) (by omega) (by simp)
 rw [h, Option.bind_some]
 exact congrArg (fun o => Option.bind o fun q => some q) h2
theorem ok7 {a b : List Pt} (ha : a.length ≤ 12) (hb : b.length ≤ 12) : nM7 a b = some (gG7 a b) := by
 unfold nM7
 have h2 := Bg7 ha hb (a.length + b.length) aT7 0 0 [] (by unfold aT7; omega) (by omega) (by omega) (by omega) (by simp)
 exact congrArg (fun o => Option.bind o fun q => some q) h2
def prt (p : List cK7) (i : Nat) : Option Nat := (p.find? fun q => decide (q.a = (i : Int))).map fun q => q.b.toNat
def pick (o a b : List Pt) : Option (List Pt) := if a = o then some b else if b = o then some a else if a = b then some a else none
def mE7 (l : List Pt) (i j : Nat) : List Pt := (l.take j).drop i
def mg (o a b : List Pt) (pa pb : List cK7) : Nat → Nat → Nat → Nat → Nat → List Pt → Option (List Pt)
 | 0, at_, i, j, k, out => (pick (mE7 o i at_) (a.drop j) (b.drop k)).map fun p => out ++ p
 | n + 1, at_, i, j, k, out => match prt pa at_, prt pb at_ with
  | some x, some y => (pick (mE7 o i at_) (mE7 a j x) (mE7 b k y)).bind fun p => mg o a b pa pb n (at_ + 1) (at_ + 1) (x + 1) (y + 1) (out ++ p ++ (o[at_]?).toList)
  | _, _ => mg o a b pa pb n (at_ + 1) i j k out
def kk7 (o a b : List Pt) : Option (List Pt) := mg o a b (gG7 o a) (gG7 o b) o.length 0 0 0 0 []
theorem r87 {a b : List Pt} : ∀ (n i k : Nat) (q : cK7), q ∈ prs a b n i k → ∃ u v : Nat, q = ⟨(u : Int), (v : Int)⟩ ∧ i ≤ u ∧ u < a.length ∧ k ≤ v ∧ v < b.length
 | 0, i, k, q, h => by simp [prs] at h
 | n + 1, i, k, q, h => by
  simp only [prs] at h
  split at h
  ·rename_i x y hx hy
   have h1 := (List.getElem?_eq_some_iff.1 hx).1
   have h2 := (List.getElem?_eq_some_iff.1 hy).1
   split at h
   ·rcases List.mem_cons.1 h with rfl | h
    ·exact ⟨i, k, rfl, Nat.le_refl _, h1, Nat.le_refl _, h2⟩
    ·obtain ⟨u, v, e, g1, g2, g3, g4⟩ := r87 n _ _ q h
     exact ⟨u, v, e, by omega, g2, by omega, g4⟩
   ·split at h
    ·obtain ⟨u, v, e, g1, g2, g3, g4⟩ := r87 n _ _ q h
     exact ⟨u, v, e, by omega, g2, by omega, g4⟩
    ·obtain ⟨u, v, e, g1, g2, g3, g4⟩ := r87 n _ _ q h
     exact ⟨u, v, e, by omega, g2, by omega, g4⟩
  ·simp at h
def UpP (p : List cK7) : Prop := p.Pairwise fun q r => q.a < r.a ∧ q.b < r.b
theorem yX7 {a b : List Pt} : ∀ (n i k : Nat), UpP (prs a b n i k)
 | 0, i, k => .nil
 | n + 1, i, k => by
  simp only [prs]
  split
  ·split
   ·refine List.Pairwise.cons (fun q hq => ?_) (yX7 n _ _)
    obtain ⟨u, v, rfl, g1, g2, g3, g4⟩ := r87 n _ _ q hq
    simp only
    omega
   ·split <;> exact yX7 n _ _
  ·exact .nil
structure OkP (p : List cK7) (n : Nat) : Prop where
 up : UpP p
 rg : ∀ q, q ∈ p → 0 ≤ q.a ∧ 0 ≤ q.b ∧ q.b < n
theorem cF7 (a b : List Pt) : OkP (gG7 a b) b.length := ⟨yX7 _ _ _, fun q hq => by
 obtain ⟨u, v, rfl, g1, g2, g3, g4⟩ := r87 _ _ _ q hq
 simp only
 omega⟩
theorem g17 {a b : List Pt} (ha : a.length ≤ 12) : (gG7 a b).length ≤ 12 := by
 have : ∀ n i k, i ≤ a.length → (prs a b n i k).length ≤ a.length - i := by
  intro n
  induction n with
  | zero => intro i k h; simp [prs]
  | succ n ih =>
   intro i k h
   simp only [prs]
   split
   ·rename_i x y hx hy
    have h1 := (List.getElem?_eq_some_iff.1 hx).1
    split
    ·have := ih (i + 1) (k + 1) (by omega)
     simp only [List.length_cons]
     omega
    ·split
     ·have := ih (i + 1) k (by omega)
      omega
     ·exact ih i (k + 1) h
   ·simp
 have := this (a.length + b.length) 0 0 (Nat.zero_le _)
 unfold gG7
 omega
theorem yY7 : ∀ {p : List cK7} {q r : cK7}, UpP p → q ∈ p → r ∈ p → q.a < r.a → q.b < r.b
 | [], q, r, h, hq, hr, e => by simp at hq
 | x :: p, q, r, h, hq, hr, e => by
  obtain ⟨h1, h2⟩ := List.pairwise_cons.1 h
  rcases List.mem_cons.1 hq with hq1 | hq1 <;> rcases List.mem_cons.1 hr with hr1 | hr1
  ·rw [hq1, hr1] at e; omega
  ·rw [hq1]; exact (h1 r hr1).2
  ·rw [hr1] at e; have := (h1 q hq1).1; omega
  ·exact yY7 h2 hq1 hr1 e
theorem g27 {p : List cK7} {n i v : Nat} (h : OkP p n) (hv : prt p i = some v) : v < n ∧ ∃ q, q ∈ p ∧ q.a = (i : Int) ∧ q.b = (v : Int) := by
 unfold prt at hv
 cases hf : p.find? fun q => decide (q.a = (i : Int)) with
 | none => rw [hf] at hv; cases hv
 | some q =>
  rw [hf] at hv
  simp only [Option.map_some, Option.some.injEq] at hv
  have hm := List.mem_of_find?_eq_some hf
  have ha : q.a = (i : Int) := by simpa using List.find?_some hf
  have hr := h.rg q hm
  exact ⟨by omega, q, hm, ha, by omega⟩
def Bh (p : List cK7) (at_ j : Nat) : Prop := ∀ q, q ∈ p → (at_ : Int) ≤ q.a → (j : Int) ≤ q.b
theorem Bh.skip {p : List cK7} {at_ j : Nat} (h : Bh p at_ j) : Bh p (at_ + 1) j := fun q hq h2 => h q hq (by omega)
theorem Bh.hit {p : List cK7} {n at_ v : Nat} (h : OkP p n) (hv : prt p at_ = some v) : Bh p (at_ + 1) (v + 1) := fun q hq h2 => by
 obtain ⟨_, r, hr, e1, e2⟩ := g27 h hv
 have := yY7 h.up hr hq (by omega)
 omega
theorem Bh.le {p : List cK7} {n at_ j v : Nat} (hb : Bh p at_ j) (h : OkP p n) (hv : prt p at_ = some v) : j ≤ v := by
 obtain ⟨_, r, hr, e1, e2⟩ := g27 h hv
 have := hb r hr (by omega)
 omega
def Bh7 (p : List cK7) (i : Nat) : Int := match prt p i with
 | some v => (v : Int)
 | none => -1
theorem r97 {x : cK7} {l : List cK7} {i : Nat} (hx : 0 ≤ x.b) : Bh7 (x :: l) i = if (x.a == (i : Int)) = true then x.b else Bh7 l i := by
 unfold Bh7 prt
 by_cases e : x.a = (i : Int)
 ·rw [List.find?_cons_of_pos (by simpa using e), if_pos (by simpa using e)]
  simp only [Option.map_some]
  omega
 ·rw [List.find?_cons_of_neg (by simpa using e), if_neg (by simpa using e)]
theorem sa7 {p : List cK7} {i n : Nat} (h : OkP p n) (hl : p.length ≤ 1048576) : nW7 p (i : Int) = some (Bh7 p i) := by
 unfold nW7
 rw [if_pos (aa7 hl)]
 have key : ∀ (l : List cK7) (k : Nat), (∀ q, q ∈ l → 0 ≤ q.b) → ((fM7 (i : Int) l k).bind fun q => match q with | .inl r => some r | .inr q11 => some (-1)) = some (Bh7 l i) := by
  intro l
  induction l with
  | nil => intro k _; rfl
  | cons x l ih =>
   intro k hq
   simp only [fM7]
   rw [r97 (hq x (by simp))]
   by_cases e : (x.a == (i : Int)) = true
   ·rw [if_pos e, if_pos e]; rfl
   ·rw [if_neg e, if_neg e]
    exact ih (k + 1) fun q h => hq q (by simp [h])
 exact key p 0 fun q hq => (h.rg q hq).2.1
theorem Cq7 {p : List cK7} {i n : Nat} (h : OkP p n) (hl : p.length ≤ 1048576) : nN7 p (i : Int) = some (Bh7 p i) := by
 unfold nN7
 rw [if_pos (aa7 hl)]
 have key : ∀ (l : List cK7) (k : Nat), (∀ q, q ∈ l → 0 ≤ q.b) → ((fx7 (i : Int) l k).bind fun q => match q with | .inl r => some r | .inr q8 => some (-1)) = some (Bh7 l i) := by
  intro l
  induction l with
  | nil => intro k _; rfl
  | cons x l ih =>
   intro k hq
   simp only [fx7]
   rw [r97 (hq x (by simp))]
   by_cases e : (x.a == (i : Int)) = true
   ·rw [if_pos e, if_pos e]; rfl
   ·rw [if_neg e, if_neg e]
    exact ih (k + 1) fun q h => hq q (by simp [h])
 exact key p 0 fun q hq => (h.rg q hq).2.1
def Bi7 (o a b : List Pt) : List Pt × Bool := match pick o a b with
 | some p => (p, true)
 | none => ([], false)
theorem uT7 {o a b : List Pt} (ha : a.length ≤ 1048576) (hb : b.length ≤ 1048576) : nO7 o a b = some (Bi7 o a b) := by
 unfold nO7 Bi7 pick
 rw [kM7 ha, Option.bind_some]
 by_cases h1 : a = o
 ·rw [if_pos (decide_eq_true h1), if_pos h1]
 ·rw [if_neg (by simp [h1]), if_neg h1, kM7 hb, Option.bind_some]
  by_cases h2 : b = o
  ·rw [if_pos (decide_eq_true h2), if_pos h2]
  ·rw [if_neg (by simp [h2]), if_neg h2, kM7 ha, Option.bind_some]
   by_cases h3 : a = b
   ·rw [if_pos (decide_eq_true h3), if_pos h3]
   ·rw [if_neg (by simp [h3]), if_neg h3]
theorem Cr7 {o a b out : List Pt} (ha : a.length ≤ 12) (hb : b.length ≤ 12) (ho : out.length ≤ 1000) : ((e37 a o).bind fun x778 => if x778 = true then (if aE7 (out ++ b).length = true then some (.inr (out ++ b)) else none) else ((e37 b o).bind fun x783 => if x783 = true then (if aE7 (out ++ a).length = true then some (.inr (out ++ a)) else none) else ((e37 a b).bind fun x785 => if x785 = true then (if aE7 (out ++ a).length = true then some (.inr (out ++ a)) else none) else (some (.inl (([] : (List Pt)), false))))) : Option (((List Pt) × Bool) ⊕ (List Pt))) =
  some (match pick o a b with | some p => .inr (out ++ p) | none => .inl ([], false)) := by
 unfold pick
 rw [uD7 (by omega), Option.bind_some]
 by_cases h1 : a = o
 ·rw [if_pos (decide_eq_true h1), if_pos h1, if_pos (aa7 (by simp; omega))]
 ·rw [if_neg (by simp [h1]), if_neg h1, uD7 (by omega), Option.bind_some]
  by_cases h2 : b = o
  ·rw [if_pos (decide_eq_true h2), if_pos h2, if_pos (aa7 (by simp; omega))]
  ·rw [if_neg (by simp [h2]), if_neg h2, uD7 (by omega), Option.bind_some]
   by_cases h3 : a = b
   ·rw [if_pos (decide_eq_true h3), if_pos h3, if_pos (aa7 (by simp; omega))]
   ·rw [if_neg (by simp [h3]), if_neg h3]
def mgR (r : Option (List Pt)) : (List Pt × Bool) ⊕ List Pt := match r with
 | some p => .inr p
 | none => .inl ([], false)
theorem dj7 {l : List Pt} {i j : Nat} (h : l.length ≤ 12) : (mE7 l i j).length ≤ 12 := by
 unfold mE7
 rw [List.length_drop, List.length_take]
 omega
theorem iT7 {o a b p : List Pt} (ha : a.length ≤ 12) (hb : b.length ≤ 12) (h : pick o a b = some p) : p.length ≤ 12 := by
 unfold pick at h
 split at h
 ·cases h; exact hb
 ·split at h
  ·cases h; exact ha
  ·split at h
   ·cases h; exact ha
   ·cases h
section
variable {o a b : List Pt} {pa pb : List cK7}
theorem MM7 (ho : o.length ≤ 12) (ha : a.length ≤ 12) (hb : b.length ≤ 12) (hpa : OkP pa a.length) (hpb : OkP pb b.length) (la : pa.length ≤ 12) (lb : pb.length ≤ 12) : ∀ (n N at_ i j k : Nat) (out : List Pt), n + 1 < N → n + at_ = o.length → i ≤ at_ → j ≤ a.length → k ≤ b.length → Bh pa at_ j → Bh pb at_ k → out.length ≤ 13 * at_ →
  es7 o pa pb a b N (i : Int) (j : Int) (k : Int) (at_ : Int) out = some (mgR (mg o a b pa pb n at_ i j k out))
 | 0, N + 2, at_, i, j, k, out, hN, hn, hi, hj, hk, ba, bb, hout => by
  simp only [es7]
  rw [if_pos (decide_eq_true (by omega)), if_neg (by simp; omega), kj7 hi (by omega), Option.bind_some, gH7 hj, Option.bind_some, gH7 hk, Option.bind_some, Cr7 (by rw [List.length_drop]; omega) (by rw [List.length_drop]; omega) (by omega), Option.bind_some]
  simp only [mg]
  unfold mE7
  cases hp : pick ((o.take at_).drop i) (a.drop j) (b.drop k) with
  | none => rfl
  | some p =>
   simp only
   rw [if_neg (by simp; omega)]
   simp only [Option.bind_some]
   rw [show IntKind.i64.wrap ((at_ : Int) + 1) = ((at_ + 1 : Nat) : Int) by rw [wr1 (by omega) (by omega)]; omega, if_neg (by simp; omega)]
   rfl
 | n + 1, N + 1, at_, i, j, k, out, hN, hn, hi, hj, hk, ba, bb, hout => by
  have ew : IntKind.i64.wrap ((at_ : Int) + 1) = ((at_ + 1 : Nat) : Int) := by rw [wr1 (by omega) (by omega)]; omega
  simp only [es7]
  rw [if_pos (decide_eq_true (by omega)), if_pos (decide_eq_true (by omega)), sa7 hpa (by omega), Option.bind_some, sa7 hpb (by omega), Option.bind_some]
  simp only [mg]
  unfold Bh7
  cases hx : prt pa at_ with
  | none =>
   simp only
   rw [if_pos (by decide)]
   simp only [Option.bind_some, ew]
   exact MM7 ho ha hb hpa hpb la lb n N _ _ _ _ _ (by omega) (by omega) (by omega) hj hk ba.skip bb.skip (by omega)
  | some x =>
   cases hy : prt pb at_ with
   | none =>
    simp only
    rw [if_neg (by simp), if_pos (by decide)]
    simp only [Option.bind_some, ew]
    exact MM7 ho ha hb hpa hpb la lb n N _ _ _ _ _ (by omega) (by omega) (by omega) hj hk ba.skip bb.skip (by omega)
   | some y =>
    have x1 := (g27 hpa hx).1
    have y1 := (g27 hpb hy).1
    have x2 := ba.le hpa hx
    have y2 := bb.le hpb hy
    have ho1 := List.getElem?_eq_getElem (show at_ < o.length by omega)
    simp only
    rw [if_neg (by simp), if_neg (by simp), kj7 hi (by omega), Option.bind_some, kj7 x2 (by omega), Option.bind_some, kj7 y2 (by omega), Option.bind_some, Cr7 (o := (o.take at_).drop i) (a := (a.take x).drop j) (b := (b.take y).drop k) (dj7 ha) (dj7 hb) (by omega), Option.bind_some]
    show _ = some (mgR ((pick (mE7 o i at_) (mE7 a j x) (mE7 b k y)).bind _))
    unfold mE7
    cases hp : pick ((o.take at_).drop i) ((a.take x).drop j) ((b.take y).drop k) with
    | none => rfl
    | some p =>
     have hpl := iT7 (dj7 (i := j) (j := x) ha) (dj7 (i := k) (j := y) hb) hp
     simp only
     rw [if_pos (decide_eq_true (by omega)), ag7, ho1, Option.bind_some, if_pos (aa7 (by simp; omega))]
     simp only [Option.bind_some, ew, ho1, Option.toList_some]
     rw [show IntKind.i64.wrap ((x : Int) + 1) = ((x + 1 : Nat) : Int) by rw [wr1 (by omega) (by omega)]; omega, show IntKind.i64.wrap ((y : Int) + 1) = ((y + 1 : Nat) : Int) by rw [wr1 (by omega) (by omega)]; omega]
     exact MM7 ho ha hb hpa hpb la lb n N _ _ _ _ _ (by omega) (by omega) (by omega) (by omega) (by omega) (Bh.hit hpa hx) (Bh.hit hpb hy) (by simp; omega)
theorem MN7 (ho : o.length ≤ 12) (ha : a.length ≤ 12) (hb : b.length ≤ 12) (hpa : OkP pa a.length) (hpb : OkP pb b.length) (la : pa.length ≤ 12) (lb : pb.length ≤ 12) : ∀ (n N at_ i j k : Nat) (out : List Pt), n + 1 < N → n + at_ = o.length → i ≤ at_ → j ≤ a.length → k ≤ b.length → Bh pa at_ j → Bh pb at_ k → out.length ≤ 13 * at_ →
  eg7 o pa pb a b N (i : Int) (j : Int) (k : Int) (at_ : Int) out = some (mgR (mg o a b pa pb n at_ i j k out))
 | 0, N + 2, at_, i, j, k, out, hN, hn, hi, hj, hk, ba, bb, hout => by
  simp only [eg7]
  rw [if_pos (decide_eq_true (by omega)), if_neg (by simp; omega), kj7 hi (by omega), Option.bind_some, gH7 hj, Option.bind_some, gH7 hk, Option.bind_some, uT7 (by rw [List.length_drop]; omega) (by rw [List.length_drop]; omega), Option.bind_some]
  simp only [mg]
  unfold mE7 Bi7
  cases hp : pick ((o.take at_).drop i) (a.drop j) (b.drop k) with
  | none => rfl
  | some p =>
   have hpl := iT7 (by rw [List.length_drop]; omega) (by rw [List.length_drop]; omega) hp
   simp only
   rw [if_neg (by decide), if_pos (aa7 (by simp; omega)), if_neg (by simp; omega)]
   simp only [Option.bind_some]
   rw [show IntKind.i64.wrap ((at_ : Int) + 1) = ((at_ + 1 : Nat) : Int) by rw [wr1 (by omega) (by omega)]; omega, if_neg (by simp; omega)]
   rfl
 | n + 1, N + 1, at_, i, j, k, out, hN, hn, hi, hj, hk, ba, bb, hout => by
  have ew : IntKind.i64.wrap ((at_ : Int) + 1) = ((at_ + 1 : Nat) : Int) := by rw [wr1 (by omega) (by omega)]; omega
  simp only [eg7]
  rw [if_pos (decide_eq_true (by omega)), if_pos (decide_eq_true (by omega)), Cq7 hpa (by omega), Option.bind_some, Cq7 hpb (by omega), Option.bind_some]
  simp only [mg]
  unfold Bh7
  cases hx : prt pa at_ with
  | none =>
   simp only
   rw [if_pos (by decide)]
   simp only [Option.bind_some, ew]
   exact MN7 ho ha hb hpa hpb la lb n N _ _ _ _ _ (by omega) (by omega) (by omega) hj hk ba.skip bb.skip (by omega)
  | some x =>
   cases hy : prt pb at_ with
   | none =>
    simp only
    rw [if_neg (by simp), if_pos (by decide)]
    simp only [Option.bind_some, ew]
    exact MN7 ho ha hb hpa hpb la lb n N _ _ _ _ _ (by omega) (by omega) (by omega) hj hk ba.skip bb.skip (by omega)
   | some y =>
    have x1 := (g27 hpa hx).1
    have y1 := (g27 hpb hy).1
    have x2 := ba.le hpa hx
    have y2 := bb.le hpb hy
    have ho1 := List.getElem?_eq_getElem (show at_ < o.length by omega)
    simp only
    rw [if_neg (by simp), if_neg (by simp), kj7 hi (by omega), Option.bind_some, kj7 x2 (by omega), Option.bind_some, kj7 y2 (by omega), Option.bind_some, uT7 (o := (o.take at_).drop i) (a := (a.take x).drop j) (b := (b.take y).drop k) (by have := dj7 (i := j) (j := x) ha; unfold mE7 at this; omega) (by have := dj7 (i := k) (j := y) hb; unfold mE7 at this; omega), Option.bind_some]
    show _ = some (mgR ((pick (mE7 o i at_) (mE7 a j x) (mE7 b k y)).bind _))
    unfold mE7 Bi7
    cases hp : pick ((o.take at_).drop i) ((a.take x).drop j) ((b.take y).drop k) with
    | none => rfl
    | some p =>
     have hpl := iT7 (dj7 (i := j) (j := x) ha) (dj7 (i := k) (j := y) hb) hp
     simp only
     rw [if_neg (by decide), if_pos (aa7 (by simp; omega)), if_pos (decide_eq_true (by omega)), ag7, ho1, Option.bind_some, if_pos (aa7 (by simp; omega))]
     simp only [Option.bind_some, ew, ho1, Option.toList_some]
     rw [show IntKind.i64.wrap ((x : Int) + 1) = ((x + 1 : Nat) : Int) by rw [wr1 (by omega) (by omega)]; omega, show IntKind.i64.wrap ((y : Int) + 1) = ((y + 1 : Nat) : Int) by rw [wr1 (by omega) (by omega)]; omega]
     exact MN7 ho ha hb hpa hpb la lb n N _ _ _ _ _ (by omega) (by omega) (by omega) (by omega) (by omega) (Bh.hit hpa hx) (Bh.hit hpb hy) (by simp; omega)
end
def jE7 (o a b : List Pt) : List Pt × Bool := match kk7 o a b with
 | some p => (p, true)
 | none => ([], false)
theorem v07 {o a b : List Pt} (ho : o.length ≤ 12) (ha : a.length ≤ 12) (hb : b.length ≤ 12) : nX7 o a b = some (jE7 o a b) := by
 unfold nX7 jE7 kk7
 have h := MM7 ho ha hb (cF7 o a) (cF7 o b) (g17 ho) (g17 ho) o.length aT7 0 0 0 0 [] (by unfold aT7; omega) (by omega) (by omega) (by omega) (by omega) (fun q hq _ => (cF7 o a).rg q hq |>.2.1) (fun q hq _ => (cF7 o b).rg q hq |>.2.1) (by simp)
 rw [if_neg (by simp; omega), if_neg (by simp; omega), if_neg (by simp; omega), oj7 ho ha, Option.bind_some, oj7 ho hb, Option.bind_some]
 refine (congrArg (fun z => Option.bind z _) h).trans ?_
 cases mg o a b (gG7 o a) (gG7 o b) o.length 0 0 0 0 [] <;> rfl
theorem yZ7 {o a b : List Pt} (ho : o.length ≤ 12) (ha : a.length ≤ 12) (hb : b.length ≤ 12) : qM7 o a b = some (jE7 o a b) := by
 unfold qM7 jE7 kk7
 have h := MN7 ho ha hb (cF7 o a) (cF7 o b) (g17 ho) (g17 ho) o.length aT7 0 0 0 0 [] (by unfold aT7; omega) (by omega) (by omega) (by omega) (by omega) (fun q hq _ => (cF7 o a).rg q hq |>.2.1) (fun q hq _ => (cF7 o b).rg q hq |>.2.1) (by simp)
 rw [ok7 ho ha, Option.bind_some, ok7 ho hb, Option.bind_some]
 refine (congrArg (fun z => Option.bind z _) h).trans ?_
 cases mg o a b (gG7 o a) (gG7 o b) o.length 0 0 0 0 [] <;> rfl
def cW7 (ts : List Tag) (k : Str) : Val := match ts.find? (fun t : Tag => decide (t.key = k)) with
 | some t => ⟨true, t.val⟩
 | none => ⟨false, ⟨#[]⟩⟩
theorem y07 {ts : List Tag} {k : Str} (h : (cW7 ts k).has = false) : (cW7 ts k).val = ⟨#[]⟩ := by
 unfold cW7 at h ⊢
 split at h
 ·cases h
 ·rfl
theorem mq7 {f : Feat} {k : Str} (hl : f.tags.length ≤ 1048576) : lR7 f k = some (cW7 f.tags k) := by
 have h1 : q87 f k = some (aK7 (fun t : Tag => decide (t.key = k)) f.tags 0) := by
  unfold q87 ut7
  have h := mT7 (gl := fN7 k) (p := fun t : Tag => decide (t.key = k)) (ok := fun _ => True) (fun _ => rfl) (fun x l j _ => by simp only [fN7, us7, Option.bind_some, bT7]) f.tags 0 (fun _ _ => trivial)
  rw [if_pos (aa7 hl)]
  exact (congrArg (fun o => Option.bind o fun x3 => some x3) h)
 unfold lR7 cW7
 rw [h1, Option.bind_some]
 rcases kQ7 (p := fun t : Tag => decide (t.key = k)) f.tags 0 with ⟨h1, h2⟩ | ⟨j, x, h1, h2, h3, h4⟩
 ·rw [h1, h2]; rfl
 ·rw [h1, h2, if_neg (by simp), ag7, Nat.zero_add, h3, Option.bind_some]
theorem ti7 {ts : List Tag} {k : Str} (hl : ts.length ≤ 1048576) : lK7 ts k = some ((cW7 ts k).val, (cW7 ts k).has) := by
 have key : ∀ (l : List Tag) (j : Nat), ((fy7 k l j).bind fun q => match q with | .inl r => some r | .inr q8 => some ((⟨#[]⟩ : Str), false)) = some ((cW7 l k).val, (cW7 l k).has) := by
  intro l
  induction l with
  | nil => intro j; rfl
  | cons x l ih =>
   intro j
   simp only [fy7, bT7]
   by_cases e : x.key = k
   ·rw [if_pos (decide_eq_true e)]
    unfold cW7
    rw [List.find?_cons_of_pos (by simpa using e)]
    rfl
   ·rw [if_neg (by simp [e])]
    have e2 : cW7 (x :: l) k = cW7 l k := by
     unfold cW7
     rw [List.find?_cons_of_neg (by simpa using e)]
    rw [e2]
    exact ih (j + 1)
 unfold lK7
 rw [if_pos (aa7 hl)]
 exact key ts 0
def bz7 {α : Type} [DecidableEq α] (o a b : α) : α × Bool := if a = o then (b, true) else if b = o then (a, true) else if a = b then (a, true) else (a, false)
theorem Rq7 (x y : Val) : ((x.has == y.has) && ((x.val == y.val) && true)) = decide (x = y) := by
 obtain ⟨a, b⟩ := x; obtain ⟨c, d⟩ := y
 simp only [Hk7]
 by_cases h1 : a = c <;> by_cases h2 : b = d <;> simp [h1, h2]
theorem Bj7 {o a b : Val} : rd7 o a b = some (bz7 o a b) := by
 unfold rd7 nY7 bz7
 simp only [Option.bind_some, Rq7]
 by_cases h1 : a = o <;> by_cases h2 : b = o <;> by_cases h3 : a = b <;> simp [h1, h2, h3]
def y17 (o a b : Val) : Val × Bool := if (bz7 o a b).2 = true then bz7 o a b else (if a.has = true then a else b, false)
theorem Ft7 {o a b : List Tag} {k : Str} (ho : o.length ≤ 1048576) (ha : a.length ≤ 1048576) (hb : b.length ≤ 1048576) : qP7 o a b k = some ((y17 (cW7 o k) (cW7 a k) (cW7 b k)).1.val, (y17 (cW7 o k) (cW7 a k) (cW7 b k)).1.has, (y17 (cW7 o k) (cW7 a k) (cW7 b k)).2) := by
 unfold qP7
 rw [ti7 ho, Option.bind_some, ti7 ha, Option.bind_some, ti7 hb, Option.bind_some]
 have na := y07 (ts := a) (k := k)
 have nb := y07 (ts := b) (k := k)
 generalize cW7 o k = vo at *
 generalize cW7 a k = va at *
 generalize cW7 b k = vb at *
 obtain ⟨oh, ov⟩ := vo; obtain ⟨ah, av⟩ := va; obtain ⟨bh, bv⟩ := vb
 simp only [bT7] at *
 unfold y17 bz7
 simp only [Val.mk.injEq]
 by_cases h1 : av = ov
 ·subst h1
  by_cases h2 : bv = av
  ·subst h2
   cases oh <;> cases ah <;> cases bh <;> simp_all
  ·cases oh <;> cases ah <;> cases bh <;> simp_all [eq_comm]
 ·by_cases h2 : bv = ov
  ·subst h2
   cases oh <;> cases ah <;> cases bh <;> simp_all [eq_comm]
  ·by_cases h3 : av = bv
   ·subst h3
    cases oh <;> cases ah <;> cases bh <;> simp_all [eq_comm]
   ·cases oh <;> cases ah <;> cases bh <;> simp_all [eq_comm]
def mr7 (s : List Tag) (k : Str) : List Tag := s.filter fun y => !decide (y.key = k)
def hS7 (f : Tag) : List Tag → List Tag
 | [] => [f]
 | x :: l => if slt x.key f.key = true then x :: hS7 f l else f :: mr7 (x :: l) f.key
theorem ol7 {x : Tag} {l : List Tag} {k : Str} : mr7 (x :: l) k = if x.key = k then mr7 l k else x :: mr7 l k := by
 unfold mr7
 rw [List.filter_cons]
 by_cases h : x.key = k <;> simp [h]
theorem iU7 {f : Tag} : ∀ (l : List Tag) (k : Nat) (v : List Tag), v.length + l.length ≤ 1048576 → cu7 f.key f.val l k true v = some (true, v ++ mr7 l f.key)
 | [], k, v, _ => by simp [cu7, mr7]
 | x :: l, k, v, h => by
  simp only [List.length_cons] at h
  simp only [cu7, bT7, Bool.not_true, Bool.false_eq_true, if_false, Option.bind_some]
  rw [ol7]
  by_cases e : x.key = f.key
  ·rw [if_neg (by simp [e]), iU7 l (k + 1) v (by omega), if_pos e]
  ·rw [if_pos (by simp [e]), if_pos (aa7 (by simp; omega)), iU7 l (k + 1) _ (by simp; omega), if_neg e]
   simp
theorem sb7 {f : Tag} : ∀ (l : List Tag) (k : Nat) (v : List Tag), v.length + l.length + 1 ≤ 1048576 → ∃ d o, cu7 f.key f.val l k false v = some (d, o) ∧ (if d = true then o else o ++ [f]) = v ++ hS7 f l
 | [], k, v, _ => ⟨false, v, rfl, by simp [hS7]⟩
 | x :: l, k, v, h => by
  simp only [List.length_cons] at h
  simp only [cu7, bT7, Bool.not_false, if_true, hS7]
  by_cases e : slt x.key f.key = true
  ·have hn := uM7 e
   obtain ⟨d, o, h1, h2⟩ := sb7 l (k + 1) (v ++ [x]) (by simp; omega)
   refine ⟨d, o, ?_, by rw [h2, if_pos e]; simp⟩
   rw [if_neg (by simp [e]), Option.bind_some]
   simp only
   rw [if_pos (by simp [hn]), if_pos (aa7 (by simp; omega)), h1]
  ·rw [if_pos (by simpa using e), if_pos (aa7 (by simp; omega)), Option.bind_some]
   simp only
   rw [if_neg e, ol7]
   by_cases e2 : x.key = f.key
   ·rw [if_neg (by simp [e2]), iU7 l (k + 1) _ (by simp; omega), if_pos e2]
    exact ⟨true, _, rfl, by simp⟩
   ·rw [if_pos (by simp [e2]), if_pos (aa7 (by simp; omega)), iU7 l (k + 1) _ (by simp; omega), if_neg e2]
    exact ⟨true, _, rfl, by simp⟩
theorem ms7 {f : Tag} : ∀ (l : List Tag), (hS7 f l).length ≤ l.length + 1
 | [] => by simp [hS7]
 | x :: l => by
  have := ms7 (f := f) l
  have h2 : (mr7 (x :: l) f.key).length ≤ (x :: l).length := List.length_filter_le _ _
  unfold hS7
  split
  ·simp only [List.length_cons]; omega
  ·simp only [List.length_cons] at h2 ⊢; omega
theorem Fu7 {s : List Tag} {f : Tag} (h : s.length + 1 ≤ 1048576) : is7 s f.key f.val = some (hS7 f s) := by
 obtain ⟨d, o, h1, h2⟩ := sb7 (f := f) s 0 [] (by simp; omega)
 have h3 := ms7 (f := f) s
 simp only [List.nil_append] at h2
 unfold is7
 rw [if_pos (aa7 (by omega)), h1, Option.bind_some]
 cases d
 ·simp only [Bool.not_false, if_true]
  simp only [Bool.false_eq_true, if_false] at h2
  rw [if_pos (aa7 (by rw [h2]; omega)), h2]
 ·simp only [if_true] at h2
  simp [h2]
theorem mt7 {f : Tag} : ∀ {l : List Tag} {k : Str}, k ∈ (hS7 f l).map (·.key) ↔ k = f.key ∨ k ∈ l.map (·.key)
 | [], k => by simp [hS7]
 | x :: l, k => by
  unfold hS7
  split
  ·rw [List.map_cons, List.mem_cons, mt7, List.map_cons, List.mem_cons]
   constructor
   ·rintro (h | h | h)
    ·exact .inr (.inl h)
    ·exact .inl h
    ·exact .inr (.inr h)
   ·rintro (h | h | h)
    ·exact .inr (.inl h)
    ·exact .inl h
    ·exact .inr (.inr h)
  ·rw [List.map_cons, List.mem_cons]
   have e : k ∈ (mr7 (x :: l) f.key).map (·.key) ↔ k ≠ f.key ∧ k ∈ (x :: l).map (·.key) := by
    simp only [mr7, List.mem_map, List.mem_filter, Bool.not_eq_true', decide_eq_false_iff_not]
    constructor
    ·rintro ⟨y, ⟨h1, h2⟩, rfl⟩
     exact ⟨h2, y, h1, rfl⟩
    ·rintro ⟨h2, y, h1, rfl⟩
     exact ⟨y, ⟨h1, h2⟩, rfl⟩
   rw [e]
   by_cases h : k = f.key
   ·simp [h]
   ·simp [h]
theorem Bk7 {s : List Tag} {k : Str} : (mr7 s k).Sublist s := List.filter_sublist
theorem uU7 {f : Tag} : ∀ {l : List Tag}, SPw (l.map (·.key)) → SPw ((hS7 f l).map (·.key))
 | [], _ => by simp [hS7, SPw]
 | x :: l, h => by
  have h0 := h
  unfold SPw at h
  rw [List.map_cons, List.pairwise_cons] at h
  obtain ⟨h1, h2⟩ := h
  unfold hS7
  split
  ·rename_i e
   unfold SPw
   rw [List.map_cons, List.pairwise_cons]
   refine ⟨fun k hk => ?_, uU7 h2⟩
   rcases mt7.1 hk with rfl | hk
   ·exact e
   ·exact h1 k hk
  ·rename_i e
   unfold SPw
   rw [List.map_cons, List.pairwise_cons]
   refine ⟨fun k hk => ?_, List.Pairwise.sublist ((Bk7 (s := x :: l)).map _) h0⟩
   obtain ⟨y, hy, rfl⟩ := List.mem_map.1 hk
   have hy2 := List.mem_filter.1 hy
   have hne : y.key ≠ f.key := by simpa using hy2.2
   have hfx : leS f.key x.key = true := by unfold leS; simpa using e
   rcases List.mem_cons.1 hy2.1 with rfl | hy3
   ·exact yU7 hfx (fun e => hne e.symm)
   ·exact Cp7 hfx (h1 _ (List.mem_map_of_mem hy3))
def g97 (o a b : List Tag) : List Str := Go.Lib.compact (((o ++ a ++ b).map (·.key)).mergeSort leS)
theorem Bl7 {o a b : List Tag} : SPw (g97 o a b) := yV7 (List.pairwise_mergeSort r47 r57 _)
theorem sc7 {o a b : List Tag} {k : Str} : k ∈ g97 o a b ↔ k ∈ o.map (·.key) ∨ k ∈ a.map (·.key) ∨ k ∈ b.map (·.key) := by
 unfold g97
 rw [uP7, (List.mergeSort_perm _ leS).mem_iff, List.map_append, List.map_append, List.mem_append, List.mem_append, or_assoc]
theorem Bm7 {o a b : List Tag} (h : o.length + a.length + b.length ≤ 1000) : qO7 o a b = some (g97 o a b) := by
 have k1 : ∀ (l : List Tag) (k : Nat) (v : List Tag), v.length + l.length ≤ 1000 → SPw (v.map (·.key)) → ∃ r, fz7 l k v = some r ∧ SPw (r.map (·.key)) ∧ r.length ≤ v.length + l.length ∧ ∀ x, x ∈ r.map (·.key) ↔ x ∈ v.map (·.key) ∨ x ∈ l.map (·.key) := by
  intro l
  induction l with
  | nil => intro k v _ hv; exact ⟨v, rfl, hv, by simp, by simp⟩
  | cons t l ih =>
   intro k v h hv
   simp only [List.length_cons] at h
   have hp := ms7 (f := ⟨t.key, ⟨#[97]⟩⟩) v
   obtain ⟨r, h1, h2, h3, h4⟩ := ih (k + 1) (hS7 ⟨t.key, ⟨#[97]⟩⟩ v) (by omega) (uU7 hv)
   refine ⟨r, ?_, h2, by simp only [List.length_cons]; omega, fun x => ?_⟩
   ·simp only [fz7]
    rw [Fu7 (s := v) (f := ⟨t.key, ⟨#[97]⟩⟩) (by omega), Option.bind_some, h1]
   ·rw [h4, mt7, List.map_cons, List.mem_cons]
    constructor
    ·rintro ((h | h) | h)
     ·exact .inr (.inl h)
     ·exact .inl h
     ·exact .inr (.inr h)
    ·rintro (h | h | h)
     ·exact .inl (.inr h)
     ·exact .inl (.inl h)
     ·exact .inr h
 have k2 : ∀ (l : List Tag) (k : Nat) (v : List Str), v.length + l.length ≤ 1000 → eh7 l k v = some (v ++ l.map (·.key)) := by
  intro l
  induction l with
  | nil => intro k v _; simp [eh7]
  | cons x l ih =>
   intro k v h
   simp only [List.length_cons] at h
   simp only [eh7]
   rw [if_pos (aa7 (by simp; omega)), ih _ _ (by simp; omega)]
   simp
 obtain ⟨r, h1, h2, h3, h4⟩ := k1 (o ++ a ++ b) 0 [] (by simp; omega) (by simp [SPw])
 unfold qO7
 simp only [List.nil_append]
 simp only [List.length_append, List.length_nil] at h3
 rw [if_pos (aa7 (by omega)), if_pos (aa7 (by simp; omega)), if_pos (aa7 (by simp; omega)), if_pos (aa7 (by simp; omega)), h1, Option.bind_some, if_pos (aa7 (by omega)), k2 r 0 [] (by simp; omega), Option.bind_some]
 congr 1
 refine yT7 (by simpa using h2) Bl7 fun x => ?_
 rw [sc7, List.nil_append, h4]
 simp [or_assoc]
def tagW : Str := ⟨#[116, 97, 103, 32]⟩
def mT (o a b : Feat) (k : Str) : Val × Bool := y17 (cW7 o.tags k) (cW7 a.tags k) (cW7 b.tags k)
def wOf (o a b : Feat) (k : Str) : List Str := if (mT o a b k).2 = true then [] else [tagW ++ k]
def tOf (o a b : Feat) (k : Str) : List Tag := if (mT o a b k).1.has = true then [⟨k, (mT o a b k).1.val⟩] else []
structure ha7 (f : Feat) : Prop where
 id : f.id.size ≤ 7
 pts : f.shape.pts.length ≤ 6
 tags : f.tags.length ≤ 4
 key : ∀ t, t ∈ f.tags → t.key.size ≤ 7 ∧ t.val.size ≤ 7
 shape : dq7 f.shape = true
theorem hT7 {f : Feat} (h : bM7 f = true) : ha7 f := by
 unfold bM7 qu7 at h
 simp only [Bool.and_eq_true, decide_eq_true_eq] at h
 obtain ⟨h1, h2, h5, h6⟩ := h
 have h3 := h2
 unfold dq7 at h3
 simp only [Bool.and_eq_true, decide_eq_true_eq] at h3
 refine ⟨ck7 h1, h3.2.1, h6, fun t ht => ?_, h2⟩
 obtain ⟨j, hj⟩ := Ml7 h5 ht
 simp only [Bool.and_eq_true] at hj
 exact ⟨ck7 hj.1, ck7 hj.2.1⟩
theorem sd7 {ts : List Tag} {k : Str} (h : ∀ t, t ∈ ts → t.key.size ≤ 7 ∧ t.val.size ≤ 7) : (cW7 ts k).val.size ≤ 7 := by
 unfold cW7
 split
 ·rename_i t e
  exact (h t (List.mem_of_find?_eq_some e)).2
 ·show (0 : Nat) ≤ 7
  omega
theorem mu7 {α : Type} [DecidableEq α] {o a b : α} : (bz7 o a b).1 = a ∨ (bz7 o a b).1 = b := by
 unfold bz7
 split
 ·exact .inr rfl
 ·split
  ·exact .inl rfl
  ·split <;> exact .inl rfl
theorem Bn7 {o a b : Val} : (y17 o a b).1 = a ∨ (y17 o a b).1 = b := by
 unfold y17
 split
 ·exact mu7
 ·split
  ·exact .inl rfl
  ·exact .inr rfl
section
variable {o a b : Feat}
theorem Fv7 (k : Str) : (tOf o a b k).length ≤ 1 := by
 unfold tOf
 split <;> simp
theorem y27 (k : Str) : (wOf o a b k).length ≤ 1 := by
 unfold wOf
 split <;> simp
theorem wf {k : Str} {p : Bool} (h : (mT o a b k).2 = p) : wOf o a b k = if p = true then [] else [tagW ++ k] := by
 unfold wOf
 rw [h]
theorem tf {k : Str} {p : Bool} (h : (mT o a b k).1.has = p) : tOf o a b k = if p = true then [⟨k, (mT o a b k).1.val⟩] else [] := by
 unfold tOf
 rw [h]
theorem Bo7 {α β : Type} {f : α → List β} (h : ∀ x, (f x).length ≤ 1) : ∀ l : List α, (l.flatMap f).length ≤ l.length
 | [] => by simp
 | x :: l => by
  have h1 := h x
  have h2 := Bo7 h l
  simp only [List.flatMap_cons, List.length_append, List.length_cons]
  omega
theorem tj7 {k : Str} (h : k.size ≤ 1000) : cat (⟨#[116, 97, 103, 32]⟩ : Str) k = some (tagW ++ k) := by
 unfold cat
 rw [if_pos]
 ·rfl
 ·show 4 + k.size ≤ _
  omega
theorem uV7 (ho : ha7 o) (ha : ha7 a) (hb : ha7 b) : ∀ (l : List Str) (j : Nat) (w : List Str) (ts : List Tag), (∀ k, k ∈ l → k.size ≤ 7) → w.length + l.length ≤ 1000 → ts.length + l.length ≤ 1000 → cO7 o a b l j w ts = some (w ++ l.flatMap (wOf o a b), ts ++ l.flatMap (tOf o a b))
 | [], j, w, ts, hk, hw, ht => by simp [cO7]
 | k :: l, j, w, ts, hk, hw, ht => by
  have h1 := ho.tags; have h2 := ha.tags; have h3 := hb.tags
  have hks := hk k (by simp)
  simp only [List.length_cons] at hw ht
  have ih := fun w ts hw ht => uV7 ho ha hb l (j + 1) w ts (fun k h => hk k (by simp [h])) hw ht
  simp only [cO7]
  rw [Ft7 (by omega) (by omega) (by omega), Option.bind_some, show y17 (cW7 o.tags k) (cW7 a.tags k) (cW7 b.tags k) = mT o a b k from rfl, List.flatMap_cons, List.flatMap_cons]
  cases e1 : (mT o a b k).2 <;> cases e2 : (mT o a b k).1.has
  ·rw [if_pos (by simp), tj7 (by omega), Option.bind_some, if_pos (aa7 (by simp; omega)), if_neg (by simp), ih _ _ (by simp; omega) (by omega)]
   rw [wf e1, tf e2]; simp
  ·rw [if_pos (by simp), tj7 (by omega), Option.bind_some, if_pos (aa7 (by simp; omega)), if_pos (by simp), if_pos (aa7 (by simp; omega)), ih _ _ (by simp; omega) (by simp; omega)]
   rw [wf e1, tf e2]; simp
  ·rw [if_neg (by simp), if_neg (by simp), ih _ _ (by omega) (by omega)]
   rw [wf e1, tf e2]; simp
  ·rw [if_neg (by simp), if_pos (by simp), if_pos (aa7 (by simp; omega)), ih _ _ (by omega) (by simp; omega)]
   rw [wf e1, tf e2]; simp
theorem uW7 (ho : ha7 o) (ha : ha7 a) (hb : ha7 b) : ∀ (l : List Str) (j : Nat) (w : List Str) (ts : List Tag), (∀ k, k ∈ l → k.size ≤ 7) → w.length + l.length ≤ 1000 → ts.length + l.length ≤ 1000 → dD7 a b o l j w ts = some (w ++ l.flatMap (wOf o a b), ts ++ l.flatMap (tOf o a b))
 | [], j, w, ts, hk, hw, ht => by simp [dD7]
 | k :: l, j, w, ts, hk, hw, ht => by
  have h1 := ho.tags; have h2 := ha.tags; have h3 := hb.tags
  have hks := hk k (by simp)
  simp only [List.length_cons] at hw ht
  have ih := fun w ts hw ht => uW7 ho ha hb l (j + 1) w ts (fun k h => hk k (by simp [h])) hw ht
  simp only [dD7]
  rw [mq7 (by omega), Option.bind_some, mq7 (by omega), Option.bind_some, mq7 (by omega), Option.bind_some, Bj7, Option.bind_some, List.flatMap_cons, List.flatMap_cons]
  have e0 : mT o a b k = y17 (cW7 o.tags k) (cW7 a.tags k) (cW7 b.tags k) := rfl
  have key : ((if (!(bz7 (cW7 o.tags k) (cW7 a.tags k) (cW7 b.tags k)).2) = true then ((cat (⟨#[116, 97, 103, 32]⟩ : Str) k).bind fun x292 => if aE7 (w ++ ([x292] : (List Str))).length = true then if (!(cW7 a.tags k).has) = true then (some ((w ++ ([x292] : (List Str))), (cW7 b.tags k).has, (cW7 b.tags k).val)) else (some ((w ++ ([x292] : (List Str))), (cW7 a.tags k).has, (cW7 a.tags k).val)) else none) else (some (w, (bz7 (cW7 o.tags k) (cW7 a.tags k) (cW7 b.tags k)).1.has, (bz7 (cW7 o.tags k) (cW7 a.tags k) (cW7 b.tags k)).1.val)) : Option ((List Str) × Bool × Str))) = some (w ++ wOf o a b k, (mT o a b k).1.has, (mT o a b k).1.val) := by
   unfold wOf
   rw [e0]
   unfold y17
   cases e1 : (bz7 (cW7 o.tags k) (cW7 a.tags k) (cW7 b.tags k)).2
   ·rw [if_pos (by simp), tj7 (by omega), Option.bind_some, if_pos (aa7 (by simp; omega))]
    cases e2 : (cW7 a.tags k).has <;> simp [e2]
   ·simp [e1]
  refine (congrArg (fun z => Option.bind z _) key).trans ?_
  simp only [Option.bind_some]
  have hwl := y27 (o := o) (a := a) (b := b) k
  cases e2 : (mT o a b k).1.has
  ·rw [if_neg (by simp), ih _ _ (by simp; omega) (by omega)]
   rw [tf e2]; simp
  ·rw [if_pos (by simp), if_pos (aa7 (by simp; omega)), ih _ _ (by simp; omega) (by simp; omega)]
   rw [tf e2]; simp
end
def bx7 (o a b : aI7) : aI7 × Bool := if (bz7 o a b).2 = true then bz7 o a b else if a.kind = b.kind ∧ a.kind = o.kind then (match kk7 o.pts a.pts b.pts with
 | some p => if dq7 ⟨a.kind, p⟩ = true then (⟨a.kind, p⟩, true) else (a, false)
 | none => (a, false)) else (a, false)
theorem Bp7 {o a b : aI7} (ha : a.pts.length ≤ 1048576) (hb : b.pts.length ≤ 1048576) : rc7 o a b = some (bz7 o a b) := by
 unfold rc7 bz7
 rw [f17 ha, Option.bind_some]
 by_cases h1 : a = o
 ·rw [if_pos (decide_eq_true h1), if_pos h1]
 ·rw [if_neg (by simp [h1]), if_neg h1, f17 hb, Option.bind_some]
  by_cases h2 : b = o
  ·rw [if_pos (decide_eq_true h2), if_pos h2]
  ·rw [if_neg (by simp [h2]), if_neg h2, f17 ha, Option.bind_some]
   by_cases h3 : a = b
   ·rw [if_pos (decide_eq_true h3), if_pos h3]
   ·rw [if_neg (by simp [h3]), if_neg h3]
theorem y37 {o a b : List Pt} {pa pb : List cK7} (ho : o.length ≤ 12) (ha : a.length ≤ 12) (hb : b.length ≤ 12) : ∀ (n at_ i j k : Nat) (out p : List Pt), mg o a b pa pb n at_ i j k out = some p → p.length ≤ out.length + 13 * n + 12
 | 0, at_, i, j, k, out, p, h => by
  simp only [mg] at h
  cases hp : pick (mE7 o i at_) (a.drop j) (b.drop k) with
  | none => rw [hp] at h; cases h
  | some q =>
   have hq := iT7 (by rw [List.length_drop]; omega) (by rw [List.length_drop]; omega) hp
   rw [hp] at h
   cases h
   simp
   omega
 | n + 1, at_, i, j, k, out, p, h => by
  simp only [mg] at h
  split at h
  ·rename_i x y hx hy
   cases hp : pick (mE7 o i at_) (mE7 a j x) (mE7 b k y) with
   | none => rw [hp] at h; cases h
   | some q =>
    have hq := iT7 (dj7 (i := j) (j := x) ha) (dj7 (i := k) (j := y) hb) hp
    rw [hp] at h
    have := y37 ho ha hb n _ _ _ _ _ _ h
    have h2 : (o[at_]?).toList.length ≤ 1 := by cases o[at_]? <;> simp
    simp only [List.length_append] at this
    omega
  ·have := y37 ho ha hb n _ _ _ _ _ _ h
   omega
theorem jF7 {o a b p : List Pt} (ho : o.length ≤ 12) (ha : a.length ≤ 12) (hb : b.length ≤ 12) (h : kk7 o a b = some p) : p.length ≤ 200 := by
 have := y37 ho ha hb _ _ _ _ _ _ _ h
 simp at this
 omega
theorem jG7 {o a b : aI7} (h1 : ¬a = o) (h2 : ¬b = o) (h3 : ¬a = b) : bx7 o a b = if a.kind = b.kind ∧ a.kind = o.kind then (match kk7 o.pts a.pts b.pts with
 | some p => if dq7 ⟨a.kind, p⟩ = true then (⟨a.kind, p⟩, true) else (a, false)
 | none => (a, false)) else (a, false) := by
 unfold bx7 bz7
 rw [if_neg h1, if_neg h2, if_neg h3, if_neg (fun h => by cases h)]
theorem dZ7 {o a b : aI7} (h : a = o ∨ b = o ∨ a = b) : bx7 o a b = bz7 o a b := by
 unfold bx7
 rw [if_pos]
 unfold bz7
 by_cases h1 : a = o
 ·simp [h1]
 ·by_cases h2 : b = o
  ·simp [h1, h2]
  ·by_cases h3 : a = b
   ·simp [h1, h2, h3]
   ·simp_all
theorem y47 {o a b : aI7} (ho : o.pts.length ≤ 12) (ha : a.pts.length ≤ 12) (hb : b.pts.length ≤ 12) : qN7 o a b = some (bx7 o a b) := by
 unfold qN7
 rw [f07 (by omega), Option.bind_some]
 by_cases h1 : a = o
 ·rw [if_pos (decide_eq_true h1), dZ7 (.inl h1)]
  unfold bz7
  rw [if_pos h1]
 ·rw [if_neg (by simp [h1]), f07 (by omega), Option.bind_some]
  by_cases h2 : b = o
  ·rw [if_pos (decide_eq_true h2), dZ7 (.inr (.inl h2))]
   unfold bz7
   rw [if_neg h1, if_pos h2]
   rfl
  ·rw [if_neg (by simp [h2]), f07 (by omega)]
   simp only [Option.bind_some]
   by_cases h3 : a = b
   ·rw [if_pos (decide_eq_true h3), dZ7 (.inr (.inr h3))]
    unfold bz7
    rw [if_neg h1, if_neg h2, if_pos h3]
   ·rw [if_neg (by simp [h3]), jG7 h1 h2 h3]
    by_cases k1 : a.kind = b.kind
    ·rw [if_neg (by simp [k1])]
     by_cases k2 : a.kind = o.kind
     ·rw [if_neg (by simp [k2]), if_pos ⟨k1, k2⟩, yZ7 ho ha hb, Option.bind_some]
      unfold jE7
      cases hm : kk7 o.pts a.pts b.pts with
      | none => simp
      | some p =>
       have := jF7 ho ha hb hm
       simp only
       rw [if_neg (by simp), iI7 (by simp only; omega), Option.bind_some]
       cases dq7 ⟨a.kind, p⟩ <;> simp
     ·rw [if_pos (by simp [k2]), if_neg (fun h => k2 h.2)]
    ·rw [if_pos (by simp [k1]), if_neg (fun h => k1 h.1)]
def shW : Str := ⟨#[115, 104, 97, 112, 101]⟩
def Qn7 : Str := ⟨#[109, 117, 99, 104]⟩
def fjF (o a b : Feat) : Feat := ⟨a.id, (bx7 o.shape a.shape b.shape).1, (g97 o.tags a.tags b.tags).flatMap (tOf o a b)⟩
def fjW (o a b : Feat) : List Str := (if (bx7 o.shape a.shape b.shape).2 = true then [] else [shW]) ++ (g97 o.tags a.tags b.tags).flatMap (wOf o a b)
def mFJ (o a b : Feat) : Feat × List Str := if bM7 (fjF o a b) = true then (fjF o a b, fjW o a b) else (a, [Qn7])
theorem Bq7 {xs : List Str} : (Go.Lib.compact xs).length ≤ xs.length := by
 unfold Go.Lib.compact Go.Lib.compactUpTo
 rw [List.length_map]
 exact Nat.le_trans (List.length_filter_le _ _) (by simp)
theorem iV7 {o a b : List Tag} : (g97 o a b).length ≤ o.length + a.length + b.length := by
 have := Bq7 (xs := ((o ++ a ++ b).map (·.key)).mergeSort leS)
 unfold g97
 simp only [List.length_mergeSort, List.length_map, List.length_append] at this
 omega
theorem hU7 {o a b : aI7} (ho : o.pts.length ≤ 12) (ha : a.pts.length ≤ 12) (hb : b.pts.length ≤ 12) : (bx7 o a b).1.pts.length ≤ 200 := by
 by_cases h : a = o ∨ b = o ∨ a = b
 ·rw [dZ7 h]
  rcases mu7 (o := o) (a := a) (b := b) with h | h <;> rw [h] <;> omega
 ·rw [jG7 (fun e => h (.inl e)) (fun e => h (.inr (.inl e))) (fun e => h (.inr (.inr e)))]
  split
  ·split
   ·rename_i p hp
    split
    ·exact jF7 ho ha hb hp
    ·simp only; omega
   ·simp only; omega
  ·simp only; omega
theorem iW7 {o a b : Feat} (ho : ha7 o) (ha : ha7 a) (hb : ha7 b) : ∀ k, k ∈ g97 o.tags a.tags b.tags → k.size ≤ 7 := fun k hk => by
 rcases sc7.1 hk with h | h | h
 ·obtain ⟨t, ht, rfl⟩ := List.mem_map.1 h; exact (ho.key t ht).1
 ·obtain ⟨t, ht, rfl⟩ := List.mem_map.1 h; exact (ha.key t ht).1
 ·obtain ⟨t, ht, rfl⟩ := List.mem_map.1 h; exact (hb.key t ht).1
theorem mv7 {α : Type} {w : α → Nat} {c : Nat} : ∀ {l : List α}, (∀ x, x ∈ l → w x ≤ c) → hW7 w l ≤ l.length * c
 | [], h => by simp [hW7]
 | x :: l, h => by
  have h1 := h x (by simp)
  have h2 := mv7 (l := l) fun y hy => h y (by simp [hy])
  simp only [hW7, List.length_cons, Nat.add_mul]
  omega
theorem Q67 {o a b : Feat} (ho : ha7 o) (ha : ha7 a) (hb : ha7 b) : aZ7 (fjF o a b) ≤ 1000 := by
 have h1 := hU7 (o := o.shape) (a := a.shape) (b := b.shape) (by have := ho.pts; omega) (by have := ha.pts; omega) (by have := hb.pts; omega)
 have h2 := iV7 (o := o.tags) (a := a.tags) (b := b.tags)
 have h3 := Bo7 (f := tOf o a b) (fun k => Fv7 k) (g97 o.tags a.tags b.tags)
 have t1 := ho.tags; have t2 := ha.tags; have t3 := hb.tags
 have h4 : hW7 sN7 ((g97 o.tags a.tags b.tags).flatMap (tOf o a b)) ≤ ((g97 o.tags a.tags b.tags).flatMap (tOf o a b)).length * 14 := mv7 fun t ht => by
  obtain ⟨k, hk, hkt⟩ := List.mem_flatMap.1 ht
  have hs := iW7 ho ha hb k hk
  unfold tOf at hkt
  split at hkt
  ·simp only [List.mem_singleton] at hkt
   subst hkt
   have v1 := sd7 (k := k) ha.key
   have v2 := sd7 (k := k) hb.key
   unfold sN7
   simp only
   rcases Bn7 (o := cW7 o.tags k) (a := cW7 a.tags k) (b := cW7 b.tags k) with e | e
   ·have : (mT o a b k).1.val.size ≤ 7 := by unfold mT; rw [e]; exact v1
    omega
   ·have : (mT o a b k).1.val.size ≤ 7 := by unfold mT; rw [e]; exact v2
    omega
  ·simp at hkt
 have h5 := qr7 (bx7 o.shape a.shape b.shape).1.pts
 have h6 := ha.id
 unfold fjF aZ7 hg7 wL
 simp only
 omega
theorem Br7 {o a b : Feat} (ho : bM7 o = true) (ha : bM7 a = true) (hb : bM7 b = true) : qQ7 o a b = some (mFJ o a b) := by
 have bo := hT7 ho; have ba := hT7 ha; have bb := hT7 hb
 have p1 := bo.pts; have p2 := ba.pts; have p3 := bb.pts
 have t1 := bo.tags; have t2 := ba.tags; have t3 := bb.tags
 have hp := hU7 (o := o.shape) (a := a.shape) (b := b.shape) (by omega) (by omega) (by omega)
 have hk := iV7 (o := o.tags) (a := a.tags) (b := b.tags)
 have hw := Q67 bo ba bb
 have hwa := mp7 ha
 unfold qQ7
 rw [y47 (by omega) (by omega) (by omega)]
 simp only [Option.bind_some]
 have k1 : ((if (!(bx7 o.shape a.shape b.shape).2) = true then (if aE7 ([] ++ ([(⟨#[115, 104, 97, 112, 101]⟩ : Str)] : (List Str))).length = true then some ([] ++ ([(⟨#[115, 104, 97, 112, 101]⟩ : Str)] : (List Str))) else none) else (some []) : Option (List Str))) = some (if (bx7 o.shape a.shape b.shape).2 = true then [] else [shW]) := by
  cases (bx7 o.shape a.shape b.shape).2
  ·rw [if_pos (by rfl), if_pos (aa7 (by simp))]; rfl
  ·rfl
 rw [k1, Option.bind_some]
 have k2 : lI7 (⟨(bx7 o.shape a.shape b.shape).1.kind, (bx7 o.shape a.shape b.shape).1.pts⟩ : aI7) = some (bx7 o.shape a.shape b.shape).1 := by
  unfold lI7
  rw [if_pos (aa7 (by simp; omega))]
  rfl
 rw [k2, Option.bind_some, Bm7 (by omega), Option.bind_some, if_pos (aa7 (by omega)), uV7 bo ba bb _ _ _ _ (iW7 bo ba bb) (by split <;> simp <;> omega) (by simp; omega), Option.bind_some]
 simp only [List.nil_append]
 have k3 : lE7 (⟨a.id, (bx7 o.shape a.shape b.shape).1, (g97 o.tags a.tags b.tags).flatMap (tOf o a b)⟩ : Feat) = some (bM7 (fjF o a b)) := uC7 (f := fjF o a b) (by omega)
 rw [k3, Option.bind_some]
 unfold mFJ
 cases bM7 (fjF o a b)
 ·rw [if_pos (by rfl), kP7 (by omega)]; rfl
 ·rfl
theorem Bs7 {xs : List (List Tag)} (h : xs.length ≤ 1000) (hs : (xs.flatten).length ≤ 1000) : ra7 xs = some xs.flatten := by
 have k1 : ∀ (l : List (List Tag)) (k n : Nat), n + l.flatten.length ≤ 1000 → fO7 l k (n : Int) = some ((n + l.flatten.length : Nat) : Int) := by
  intro l
  induction l with
  | nil => intro k n _; rfl
  | cons x l ih =>
   intro k n h
   simp only [List.flatten_cons, List.length_append] at h ⊢
   simp only [fO7]
   rw [show IntKind.i64.wrap ((n : Int) + (x.length : Int)) = ((n + x.length : Nat) : Int) by rw [wr1 (by omega) (by omega)]; omega, if_neg (by simp; omega), ih _ _ (by omega)]
   congr 2
   omega
 have k2 : ∀ (l : List (List Tag)) (k : Nat) (v : List Tag), v.length + l.flatten.length ≤ 1000 → et7 l k v = some (v ++ l.flatten) := by
  intro l
  induction l with
  | nil => intro k v _; simp [et7]
  | cons x l ih =>
   intro k v h
   simp only [List.flatten_cons, List.length_append] at h ⊢
   simp only [et7]
   rw [if_pos (aa7 (by rw [List.length_append]; omega)), ih _ _ (by rw [List.length_append]; omega)]
   simp
 have h1 := k1 xs 0 0 (by omega)
 unfold ra7 Cf7 xw7
 rw [if_pos (aa7 (by omega))]
 refine (congrArg (fun z => Option.bind z _) h1).trans ?_
 simp only [Option.bind_some, Nat.zero_add]
 rw [if_pos (by rw [decide_eq_true (by omega), decide_eq_true (by omega)]; rfl), Option.bind_some, if_pos (aa7 (by omega)), k2 xs 0 [] (by rw [List.length_nil]; omega)]
 rfl
def MO7 (o a b : Feat) : Feat × List Str := if (bM7 o && (bM7 a && (bM7 b && (decide (o.id = a.id) && decide (o.id = b.id))))) = true then mFJ o a b else (nF, [])
theorem v17 {o a b : Feat} (wo : aZ7 o ≤ 1048576) (wa : aZ7 a ≤ 1048576) (wb : aZ7 b ≤ 1048576) : re7 o a b = some (MO7 o a b) := by
 unfold re7 MO7
 rw [iJ7 wo, iJ7 wa, iJ7 wb, bT7, bT7]
 cases ho : bM7 o
 ·rfl
 cases ha : bM7 a
 ·rfl
 cases hb : bM7 b
 ·rfl
 by_cases i1 : o.id = a.id
 case neg => simp [i1, nF]
 by_cases i2 : o.id = b.id
 case neg => rw [i1] at i2; simp [i1, i2, nF]
 have bo := hT7 ho; have ba := hT7 ha; have bb := hT7 hb
 have p1 := bo.pts; have p2 := ba.pts; have p3 := bb.pts
 have t1 := bo.tags; have t2 := ba.tags; have t3 := bb.tags
 have hp := hU7 (o := o.shape) (a := a.shape) (b := b.shape) (by omega) (by omega) (by omega)
 have hk := iV7 (o := o.tags) (a := a.tags) (b := b.tags)
 have hw := Q67 bo ba bb
 have hwa := mp7 ha
 simp only [Bool.not_true, Bool.false_eq_true, if_false, Option.bind_some, decide_eq_true i1, decide_eq_true i2, if_true, Bool.and_self, Bool.true_and]
 rw [Bp7 (by omega) (by omega)]
 simp only [Option.bind_some]
 have k1 : ((if (!(bz7 o.shape a.shape b.shape).2) = true then (((if (o.shape.kind == a.shape.kind) = true then (if (o.shape.kind == b.shape.kind) = true then ((nX7 o.shape.pts a.shape.pts b.shape.pts).bind fun x56 => if x56.2 = true then ((lN7 (⟨a.shape.kind, x56.1⟩ : aI7)).bind fun x61 => if x61 = true then (some (true, a.shape.kind, x56.1)) else (some (false, (bz7 o.shape a.shape b.shape).1.kind, (bz7 o.shape a.shape b.shape).1.pts))) else (some (false, (bz7 o.shape a.shape b.shape).1.kind, (bz7 o.shape a.shape b.shape).1.pts))) else (some (false, (bz7 o.shape a.shape b.shape).1.kind, (bz7 o.shape a.shape b.shape).1.pts))) else (some (false, (bz7 o.shape a.shape b.shape).1.kind, (bz7 o.shape a.shape b.shape).1.pts)) : Option (Bool × Int × (List Pt)))).bind fun q55 => if (!q55.1) = true then (if aE7 ([] ++ ([(⟨#[115, 104, 97, 112, 101]⟩ : Str)] : (List Str))).length = true then some (([] ++ ([(⟨#[115, 104, 97, 112, 101]⟩ : Str)] : (List Str))), q55.2.1, q55.2.2) else none) else (some ([], q55.2.1, q55.2.2))) else (some ([], (bz7 o.shape a.shape b.shape).1.kind, (bz7 o.shape a.shape b.shape).1.pts)) : Option ((List Str) × Int × (List Pt)))) =
   some (if (bx7 o.shape a.shape b.shape).2 = true then [] else [shW], (bx7 o.shape a.shape b.shape).1.kind, (bx7 o.shape a.shape b.shape).1.pts) := by
  by_cases h : a.shape = o.shape ∨ b.shape = o.shape ∨ a.shape = b.shape
  ·have h2 : (bz7 o.shape a.shape b.shape).2 = true := by
    unfold bz7
    by_cases h1 : a.shape = o.shape
    ·simp [h1]
    ·by_cases h2 : b.shape = o.shape
     ·simp [h1, h2]
     ·have h3 : a.shape = b.shape := by simp_all
      rw [if_neg h1, if_neg h2, if_pos h3]
   rw [dZ7 h, h2]
   rfl
  ·have n1 : ¬ a.shape = o.shape := fun e => h (.inl e)
   have n2 : ¬ b.shape = o.shape := fun e => h (.inr (.inl e))
   have n3 : ¬ a.shape = b.shape := fun e => h (.inr (.inr e))
   have h2 : bz7 o.shape a.shape b.shape = (a.shape, false) := by
    unfold bz7
    rw [if_neg n1, if_neg n2, if_neg n3]
   have hj := jG7 n1 n2 n3
   rw [h2]
   simp only [Bool.not_false, if_true]
   by_cases q1 : o.shape.kind = a.shape.kind
   ·by_cases q2 : o.shape.kind = b.shape.kind
    ·rw [if_pos (by simpa using q1), if_pos (by simpa using q2), v07 (by omega) (by omega) (by omega)]
     rw [if_pos ⟨q1.symm.trans q2, q1.symm⟩] at hj
     rw [hj]
     unfold jE7
     cases hm : kk7 o.shape.pts a.shape.pts b.shape.pts with
     | none => rfl
     | some p =>
      have := jF7 (by omega) (by omega) (by omega) hm
      simp only [Option.bind_some, if_true]
      rw [rN7 (by simp only; omega), Option.bind_some]
      by_cases hs : dq7 ⟨a.shape.kind, p⟩ = true
      ·simp only [hs, if_true]; rfl
      ·simp only [hs]; rfl
    ·rw [if_neg (fun h => q2 (q1.trans h.1))] at hj
     rw [hj, if_pos (by simpa using q1), if_neg (by simpa using q2)]
     rfl
   ·rw [if_neg (fun h => q1 h.2.symm)] at hj
    rw [hj, if_neg (by simpa using q1)]
    rfl
 refine (congrArg (fun z => Option.bind z _) k1).trans ?_
 simp only [Option.bind_some]
 have k2 : lQ7 (⟨(bx7 o.shape a.shape b.shape).1.kind, (bx7 o.shape a.shape b.shape).1.pts⟩ : aI7) = some (bx7 o.shape a.shape b.shape).1 := by
  unfold lQ7
  rw [if_pos (aa7 (by simp; omega))]
  rfl
 have k3 : ∀ (l : List Tag) (k : Nat) (v : List Str), v.length + l.length ≤ 1000 → j87 l k v = some (v ++ l.map (·.key)) := by
  intro l
  induction l with
  | nil => intro k v _; simp [j87]
  | cons x l ih =>
   intro k v h
   simp only [List.length_cons] at h
   simp only [j87]
   rw [if_pos (aa7 (by simp; omega)), ih _ _ (by simp; omega)]
   simp
 have hfl : ([o.tags, a.tags, b.tags] : List (List Tag)).flatten = o.tags ++ a.tags ++ b.tags := by simp
 rw [k2, Option.bind_some, Bs7 (by simp) (by rw [hfl]; simp; omega), Option.bind_some, hfl, if_pos (aa7 (by simp; omega)), k3 _ 0 [] (by simp; omega), Option.bind_some, List.nil_append]
 unfold q57 up7 ql7 vy7
 rw [if_pos (aa7 (by simp; omega)), Option.bind_some, if_pos (aa7 (by simp [List.length_mergeSort]; omega)), Option.bind_some, show Go.Lib.compact (((o.tags ++ a.tags ++ b.tags).map (·.key)).mergeSort leS) = g97 o.tags a.tags b.tags from rfl, if_pos (aa7 (by omega)), uW7 bo ba bb _ _ _ _ (iW7 bo ba bb) (by split <;> simp <;> omega) (by simp; omega), Option.bind_some]
 simp only [List.nil_append]
 have k4 : hk7 (⟨a.id, (bx7 o.shape a.shape b.shape).1, (g97 o.tags a.tags b.tags).flatMap (tOf o a b)⟩ : Feat) = some (bM7 (fjF o a b)) := iJ7 (f := fjF o a b) (by omega)
 rw [k4, Option.bind_some]
 unfold mFJ
 cases bM7 (fjF o a b)
 ·rw [if_pos (by rfl), f47 (by omega)]; rfl
 ·rfl
def v27 : Str := ⟨#[103, 111, 110, 101]⟩
def Fw7 : Str := ⟨#[98, 111, 116, 104]⟩
def mJ1 (o a b : Feat × Bool) : (Feat × Bool) × List Str :=
 if (bz7 o a b).2 = true then ((bz7 o a b).1, [])
 else if a.2 = false then ((b.1, true), [v27])
 else if b.2 = false then ((a.1, true), [v27])
 else if o.2 = false then ((a.1, true), [Fw7])
 else (((mFJ o.1 a.1 b.1).1, true), (mFJ o.1 a.1 b.1).2)
def cr7 (o a b : List Feat) (id : Str) : (Feat × Bool) × List Str := mJ1 (bH7 o id) (bH7 a id) (bH7 b id)
def iX7 (o a b : List Feat) : List Str := FM7 (a.foldl (fun v x => hY7 x v) o) b
theorem Bt7 {o a b : List Feat} (h : Pw o) : SPw (iX7 o a b) := Fq7 (tf7 h)
theorem se7 {o a b : List Feat} {i : Str} : i ∈ iX7 o a b ↔ i ∈ o.map (·.id) ∨ i ∈ a.map (·.id) ∨ i ∈ b.map (·.id) := by
 unfold iX7 FM7
 rw [ps7, ps7, or_assoc]
theorem Bu7 {o a b : List Feat} (hp : Pw o) (ha : o.length + a.length + b.length ≤ 1000) : rb7 [o, a, b] = some (iX7 o a b) := by
 have k5 : ∀ (l : List Feat) (k : Nat) (v : List Str), v.length + l.length ≤ 1000 → eu7 l k v = some (v ++ l.map (·.id)) := by
  intro l
  induction l with
  | nil => intro k v _; simp [eu7]
  | cons x l ih =>
   intro k v h
   simp only [List.length_cons] at h
   simp only [eu7]
   rw [if_pos (aa7 (by simp; omega)), ih _ _ (by simp; omega)]
   simp
 have hm : ((o.map (·.id) ++ a.map (·.id) ++ b.map (·.id)).mergeSort leS).length ≤ 1000 := by rw [List.length_mergeSort]; simp; omega
 unfold rb7
 simp only [gW7, aa7 (n := [o, a, b].length) (by simp), aa7 (n := o.length) (by omega), aa7 (n := a.length) (by omega), aa7 (n := b.length) (by omega), k5 o 0 [] (by simp; omega), k5 a 0 (o.map (·.id)) (by simp; omega), k5 b 0 (o.map (·.id) ++ a.map (·.id)) (by simp; omega), if_true, Option.bind_some, List.nil_append, q57, ql7, aa7 (n := (o.map (·.id) ++ a.map (·.id) ++ b.map (·.id)).length) (by simp; omega), up7, vy7, aa7 (n := ((o.map (·.id) ++ a.map (·.id) ++ b.map (·.id)).mergeSort leS).length) (by omega)]
 congr 1
 refine yT7 (yV7 (List.pairwise_mergeSort r47 r57 _)) (Bt7 hp) fun x => ?_
 rw [uP7, (List.mergeSort_perm _ leS).mem_iff, List.mem_append, List.mem_append, se7, or_assoc]
theorem kS7 : ∀ {l v : List Feat}, (l.foldl (fun v x => hY7 x v) v).length ≤ v.length + l.length
 | [], v => by simp
 | x :: l, v => by
  have h1 := iS7 (f := x) v
  have h2 := kS7 (l := l) (v := hY7 x v)
  simp only [List.foldl_cons, List.length_cons]
  omega
theorem Fx7 {o a b : List Feat} (ha : o.length + a.length + b.length ≤ 1000) : qR7 o a b = some (iX7 o a b) := by
 have k1 : ∀ (l : List Feat) (k : Nat) (v : List Feat), v.length + l.length ≤ 1000 → fA7 l k v = some (l.foldl (fun v x => hY7 x v) v) := by
  intro l
  induction l with
  | nil => intro k v _; rfl
  | cons x l ih =>
   intro k v h
   simp only [List.length_cons] at h
   have hp := iS7 (f := x) v
   simp only [fA7]
   rw [yQ7 (by omega), Option.bind_some, ih (k + 1) (hY7 x v) (by omega), List.foldl_cons]
 have hl := kS7 (l := a) (v := o)
 unfold qR7 iX7
 rw [if_pos (aa7 (by omega)), k1 a 0 o (by omega), Option.bind_some, Be7 (by omega)]
 rfl
theorem iY7 {o a b : List Feat} : (iX7 o a b).length ≤ o.length + a.length + b.length := by
 have h1 := kS7 (l := a) (v := o)
 have h2 := kS7 (l := b) (v := a.foldl (fun v x => hY7 x v) o)
 unfold iX7 FM7
 rw [List.length_map]
 omega
theorem by7 {s : List Feat} {id : Str} (h : ∀ f, f ∈ s → bM7 f = true) (h2 : (bH7 s id).2 = true) : bM7 (bH7 s id).1 = true := by
 unfold bH7 at h2 ⊢
 split
 ·rename_i f e
  exact h f (List.mem_of_find?_eq_some e)
 ·rename_i e
  rw [e] at h2
  cases h2
theorem gI7 {s : List Feat} {id : Str} (h : (bH7 s id).2 = false) : bH7 s id = (nF, false) := by
 unfold bH7 at h ⊢
 split
 ·rename_i f e
  rw [e] at h
  cases h
 ·rfl
theorem tk7 {s : List Feat} (h : a97 s = true) : ∀ f, f ∈ s → bM7 f = true := fun f hf => by
 unfold a97 at h
 rw [Bool.and_eq_true] at h
 obtain ⟨j, hj⟩ := Ml7 h.1 hf
 rw [Bool.and_eq_true] at hj
 exact hj.1
theorem Fy7 {o a b : List Feat} {id : Str} (wo : wL aZ7 o ≤ 1048576) (wa : wL aZ7 a ≤ 1048576) (wb : wL aZ7 b ≤ 1048576) (fo : ∀ f, f ∈ o → bM7 f = true) (fa : ∀ f, f ∈ a → bM7 f = true) (fb : ∀ f, f ∈ b → bM7 f = true) : qS7 o a b id = some ((cr7 o a b id).1.1, (cr7 o a b id).1.2, (cr7 o a b id).2) := by
 unfold qS7 cr7
 have s1 := oi7 (s := o) (id := id)
 have s2 := oi7 (s := a) (id := id)
 have s3 := oi7 (s := b) (id := id)
 have n1 := gI7 (s := o) (id := id)
 have n2 := gI7 (s := a) (id := id)
 have n3 := gI7 (s := b) (id := id)
 have m1 := by7 (id := id) fo
 have m2 := by7 (id := id) fa
 have m3 := by7 (id := id) fb
 rw [pr7 wo, pr7 wa, pr7 wb]
 generalize bH7 o id = so at *
 generalize bH7 a id = sa at *
 generalize bH7 b id = sb at *
 obtain ⟨ofe, oh⟩ := so
 obtain ⟨af, ah⟩ := sa
 obtain ⟨bf, bh⟩ := sb
 simp only at s1 s2 s3 n1 n2 n3 m1 m2 m3
 have e : (⟨af.id, ⟨af.shape.kind, af.shape.pts⟩, af.tags⟩ : Feat) = af := rfl
 simp only [Option.bind_some, e]
 rw [gZ7 (a := af) (b := ofe) (by omega), gZ7 (a := bf) (b := ofe) (by omega), gZ7 (a := af) (b := bf) (by omega)]
 simp only [Option.bind_some]
 unfold mJ1 bz7
 simp only [Prod.mk.injEq]
 cases oh <;> cases ah <;> cases bh
 ·obtain rfl := (Prod.mk.inj (n1 rfl)).1
  obtain rfl := (Prod.mk.inj (n2 rfl)).1
  obtain rfl := (Prod.mk.inj (n3 rfl)).1
  simp
 ·obtain rfl := (Prod.mk.inj (n1 rfl)).1
  obtain rfl := (Prod.mk.inj (n2 rfl)).1
  simp
 ·obtain rfl := (Prod.mk.inj (n1 rfl)).1
  obtain rfl := (Prod.mk.inj (n3 rfl)).1
  simp
 ·by_cases h : af = bf <;> simp [h, Fw7]
 ·obtain rfl := (Prod.mk.inj (n2 rfl)).1
  obtain rfl := (Prod.mk.inj (n3 rfl)).1
  simp
 ·by_cases h : bf = ofe <;> simp [h, v27]
 ·by_cases h : af = ofe <;> simp [h, v27]
 ·by_cases h1 : af = ofe
  ·simp [h1]
  ·by_cases h2 : bf = ofe
   ·simp [h1, h2]
   ·by_cases h3 : af = bf
    ·subst h3
     simp [h1]
    ·simp [h1, h2, h3, Br7 (m1 rfl) (m2 rfl) (m3 rfl)]
def oF (o a b : List Feat) (id : Str) : List Feat := if (cr7 o a b id).1.2 = true then [(cr7 o a b id).1.1] else []
def oC (o a b : List Feat) (id : Str) : List aw7 := (cr7 o a b id).2.map fun w => ⟨id, w⟩
def sjF (o a b : List Feat) : List Feat := (iX7 o a b).flatMap (oF o a b)
def sjC (o a b : List Feat) : List aw7 := (iX7 o a b).flatMap (oC o a b)
def mSJ (o a b : List Feat) : List Feat × List aw7 × Bool := if (a97 o && (a97 a && (a97 b && a97 (sjF o a b)))) = true then (sjF o a b, sjC o a b, true) else ([], [], false)
theorem Bv7 {o a b : Feat} (ha : bM7 a = true) : bM7 (mFJ o a b).1 = true := by
 unfold mFJ
 split
 ·assumption
 ·exact ha
theorem Fz7 {o a b : Feat} (ho : ha7 o) (ha : ha7 a) (hb : ha7 b) : (fjW o a b).length ≤ 13 := by
 have hk := iV7 (o := o.tags) (a := a.tags) (b := b.tags)
 have t1 := ho.tags; have t2 := ha.tags; have t3 := hb.tags
 have h3 := Bo7 (f := wOf o a b) (fun k => y27 k) (g97 o.tags a.tags b.tags)
 unfold fjW
 rw [List.length_append]
 split
 ·rw [List.length_nil]; omega
 ·rw [List.length_singleton]; omega
section
variable {o a b : List Feat}
structure Sh (s : List Feat) : Prop where
 w : wL aZ7 s ≤ 1048576
 f : ∀ f, f ∈ s → bM7 f = true
theorem y57 (ho : Sh o) (ha : Sh a) (hb : Sh b) (id : Str) (h : (cr7 o a b id).1.2 = true) : bM7 (cr7 o a b id).1.1 = true := by
 have n1 := gI7 (s := o) (id := id)
 have n2 := gI7 (s := a) (id := id)
 have n3 := gI7 (s := b) (id := id)
 have m1 := by7 (id := id) ho.f
 have m2 := by7 (id := id) ha.f
 have m3 := by7 (id := id) hb.f
 unfold cr7 at h ⊢
 generalize bH7 o id = so at *
 generalize bH7 a id = sa at *
 generalize bH7 b id = sb at *
 unfold mJ1 at h ⊢
 split at h
 ·rename_i ht
  rw [if_pos ht]
  rcases mu7 (o := so) (a := sa) (b := sb) with e | e
  ·rw [e] at h ⊢; exact m2 h
  ·rw [e] at h ⊢; exact m3 h
 ·rename_i ht
  rw [if_neg ht]
  by_cases h1 : sa.2 = false
  ·rw [if_pos h1]
   apply m3
   cases hb2 : sb.2 with
   | true => rfl
   | false =>
    exfalso
    apply ht
    have e : sa = sb := by rw [n2 h1, n3 hb2]
    unfold bz7
    rw [e]
    by_cases q : sb = so <;> simp [q]
  ·rw [if_neg h1]
   have h1 : sa.2 = true := by cases h : sa.2 <;> simp_all
   split
   ·exact m2 h1
   ·split
    ·exact m2 h1
    ·exact Bv7 (m2 h1)
theorem y67 (ho : Sh o) (ha : Sh a) (hb : Sh b) (id : Str) : (cr7 o a b id).2.length ≤ 13 := by
 have m1 := by7 (id := id) ho.f
 have m2 := by7 (id := id) ha.f
 have m3 := by7 (id := id) hb.f
 unfold cr7
 generalize bH7 o id = so at *
 generalize bH7 a id = sa at *
 generalize bH7 b id = sb at *
 unfold mJ1
 split
 ·simp
 ·split
  ·simp
  ·split
   ·simp
   ·split
    ·simp
    ·rename_i h1 h2 h3
     have b1 := hT7 (m1 (by cases h : so.2 <;> simp_all))
     have b2 := hT7 (m2 (by cases h : sa.2 <;> simp_all))
     have b3 := hT7 (m3 (by cases h : sb.2 <;> simp_all))
     have := Fz7 b1 b2 b3
     unfold mFJ
     split
     ·exact this
     ·simp
theorem y77 (id : Str) : (oF o a b id).length ≤ 1 := by
 unfold oF
 split <;> simp
theorem cl5 {id : Str} : ∀ (l : List Str) (k : Nat) (v : List aw7), v.length + l.length ≤ 1048576 → ei7 id l k v = some (v ++ l.map fun w => ⟨id, w⟩)
 | [], k, v, _ => by simp [ei7]
 | x :: l, k, v, h => by
  simp only [List.length_cons] at h
  simp only [ei7]
  rw [if_pos (aa7 (by simp; omega)), cl5 l _ _ (by simp; omega)]
  simp
theorem cl9 {id : Str} : ∀ (l : List Str) (k : Nat) (v : List aw7), v.length + l.length ≤ 1048576 → ev7 id l k v = some (v ++ l.map fun w => ⟨id, w⟩)
 | [], k, v, _ => by simp [ev7]
 | x :: l, k, v, h => by
  simp only [List.length_cons] at h
  simp only [ev7]
  rw [if_pos (aa7 (by simp; omega)), cl9 l _ _ (by simp; omega)]
  simp
theorem of_ {id : Str} {p : Bool} (h : (cr7 o a b id).1.2 = p) : oF o a b id = if p = true then [(cr7 o a b id).1.1] else [] := by
 unfold oF
 rw [h]
theorem y87 (ho : Sh o) (ha : Sh a) (hb : Sh b) : ∀ (l : List Str) (k : Nat) (v : List Feat) (c : List aw7), v.length + l.length ≤ 10000 → c.length + 13 * l.length ≤ 100000 → ej7 o a b l k v c = some (v ++ l.flatMap (oF o a b), c ++ l.flatMap (oC o a b))
 | [], k, v, c, _, _ => by simp [ej7]
 | x :: l, k, v, c, hv, hc => by
  simp only [List.length_cons] at hv hc
  have hl := y67 ho ha hb x
  simp only [ej7]
  rw [Fy7 ho.w ha.w hb.w ho.f ha.f hb.f, Option.bind_some]
  simp only
  have k1 : ((if (cr7 o a b x).1.2 = true then (if aE7 (v ++ ([(cr7 o a b x).1.1] : (List Feat))).length = true then some (v ++ ([(cr7 o a b x).1.1] : (List Feat))) else none) else (some v) : Option (List Feat))) = some (v ++ oF o a b x) := by
   cases h : (cr7 o a b x).1.2
   ·rw [of_ h]; simp
   ·rw [of_ h, if_pos rfl, if_pos (aa7 (by simp; omega))]; rfl
  have hf := y77 (o := o) (a := a) (b := b) x
  rw [k1, Option.bind_some, if_pos (aa7 (by omega)), cl5 _ _ _ (by omega), Option.bind_some, y87 ho ha hb l _ _ _ (by simp; omega) (by simp; omega), List.flatMap_cons, List.flatMap_cons, List.append_assoc, List.append_assoc]
  rfl
end
theorem bu7 {s : List Feat} (h : a97 s = true) : s.length ≤ 8 := by
 unfold a97 at h
 rw [Bool.and_eq_true] at h
 exact of_decide_eq_true h.2
theorem ky7 {s : List Feat} (h : a97 s = true) : Sh s := by
 have hf := tk7 h
 have hl := bu7 h
 have hw : hW7 aZ7 s ≤ s.length * 100 := mv7 fun f hm => mp7 (hf f hm)
 exact ⟨by unfold wL; omega, hf⟩
section
variable {o a b : List Feat}
theorem FA7 : (sjF o a b).length ≤ o.length + a.length + b.length := by
 have h1 := Bo7 (f := oF o a b) (fun k => y77 k) (iX7 o a b)
 have h2 := iY7 (o := o) (a := a) (b := b)
 unfold sjF
 omega
theorem Bw7 (ho : Sh o) (ha : Sh a) (hb : Sh b) : ∀ f, f ∈ sjF o a b → bM7 f = true := fun f hf => by
 obtain ⟨id, _, h⟩ := List.mem_flatMap.1 hf
 unfold oF at h
 split at h
 ·rename_i h2
  rw [List.mem_singleton.1 h]
  exact y57 ho ha hb id h2
 ·simp at h
theorem FB7 (ho : a97 o = true) (ha : a97 a = true) (hb : a97 b = true) : wL aZ7 (sjF o a b) ≤ 10000 := by
 have h1 := FA7 (o := o) (a := a) (b := b)
 have l1 := bu7 ho; have l2 := bu7 ha; have l3 := bu7 hb
 have hw : hW7 aZ7 (sjF o a b) ≤ (sjF o a b).length * 100 := mv7 fun f hm => mp7 (Bw7 (ky7 ho) (ky7 ha) (ky7 hb) f hm)
 unfold wL
 omega
theorem tl7 (wo : wL aZ7 o ≤ 1048576) (wa : wL aZ7 a ≤ 1048576) (wb : wL aZ7 b ≤ 1048576) : qU7 o a b = some (mSJ o a b) := by
 unfold qU7 mSJ
 rw [e77 wo, e77 wa, e77 wb]
 cases ho : a97 o
 ·rfl
 cases ha : a97 a
 ·rfl
 cases hb : a97 b
 ·rfl
 have l1 := bu7 ho; have l2 := bu7 ha; have l3 := bu7 hb
 have hi := iY7 (o := o) (a := a) (b := b)
 have hw := FB7 ho ha hb
 simp only [Option.bind_some, Bool.not_true, Bool.false_eq_true, if_false, Bool.true_and]
 unfold uh7
 rw [Fx7 (by omega), Option.bind_some, if_pos (aa7 (by omega)), y87 (ky7 ho) (ky7 ha) (ky7 hb) _ _ _ _ (by simp; omega) (by simp; omega), Option.bind_some]
 simp only [List.nil_append]
 rw [show (iX7 o a b).flatMap (oF o a b) = sjF o a b from rfl, pj7 (by omega), Option.bind_some, e77 (by omega)]
 cases a97 (sjF o a b) <;> rfl
def th (p : Feat × Bool) : dl7 := ⟨p.2, p.1⟩
theorem mw7 {s : List Feat} {id : Str} (h : wL aZ7 s ≤ 1048576) : lS7 s id = some (th (bH7 s id)) := by
 unfold lS7
 rw [Mm7 h]
 rfl
theorem y97 {p q : Feat × Bool} (h : aZ7 p.1 ≤ 1048576) : lT7 (th p) (th q) = some (decide (p = q)) := by
 obtain ⟨f, x⟩ := p
 obtain ⟨g, y⟩ := q
 unfold lT7 th
 simp only
 rw [ob7 (a := f) (b := g) h]
 cases x <;> cases y <;> simp
theorem Bx7 {o a b : Feat × Bool} (ha : aZ7 a.1 ≤ 1048576) (hb : aZ7 b.1 ≤ 1048576) : rg7 (th o) (th a) (th b) = some (th (bz7 o a b).1, (bz7 o a b).2) := by
 unfold rg7 bz7
 rw [y97 ha, y97 hb, y97 ha]
 simp only [Option.bind_some]
 by_cases h1 : a = o
 ·simp [h1]
 ·by_cases h2 : b = o
  ·simp [h1, h2]
  ·by_cases h3 : a = b
   ·simp [h1, h2, h3]
   ·simp [h1, h2, h3]
theorem tm7 (ho : Sh o) (ha : Sh a) (hb : Sh b) (hid : ∀ id, (bH7 o id).2 = true → (bH7 o id).1.id = id) (hia : ∀ id, (bH7 a id).2 = true → (bH7 a id).1.id = id) (hib : ∀ id, (bH7 b id).2 = true → (bH7 b id).1.id = id) : ∀ (l : List Str) (k : Nat) (c : List aw7) (v : List Feat), v.length + l.length ≤ 10000 → c.length + 13 * l.length ≤ 100000 → dE7 o a b l k c v = some (c ++ l.flatMap (oC o a b), v ++ l.flatMap (oF o a b))
 | [], k, c, v, _, _ => by simp [dE7]
 | x :: l, k, c, v, hv, hc => by
  simp only [List.length_cons] at hv hc
  have hl := y67 ho ha hb x
  have hf := y77 (o := o) (a := a) (b := b) x
  have hfe := y57 ho ha hb x
  have s1 := oi7 (s := o) (id := x)
  have s2 := oi7 (s := a) (id := x)
  have s3 := oi7 (s := b) (id := x)
  have w1 := ho.w; have w2 := ha.w; have w3 := hb.w
  have m1 := by7 (id := x) ho.f
  have m2 := by7 (id := x) ha.f
  have m3 := by7 (id := x) hb.f
  have n2 := gI7 (s := a) (id := x)
  have n3 := gI7 (s := b) (id := x)
  have d1 := hid x; have d2 := hia x; have d3 := hib x
  simp only [dE7]
  rw [mw7 ho.w, Option.bind_some, mw7 ha.w, Option.bind_some, mw7 hb.w, Option.bind_some]
  simp only [Option.bind_some]
  have e1 : ∀ p : Feat × Bool, (⟨(th p).has, ⟨(th p).f.id, ⟨(th p).f.shape.kind, (th p).f.shape.pts⟩, (th p).f.tags⟩⟩ : dl7) = th p := fun p => rfl
  have e2 : ∀ p : Feat × Bool, (⟨(th p).f.id, ⟨(th p).f.shape.kind, (th p).f.shape.pts⟩, (th p).f.tags⟩ : Feat) = p.1 := fun p => rfl
  have e3 : ∀ p : Feat × Bool, (th p).has = p.2 := fun p => rfl
  have e5 : ∀ p : Feat × Bool, (⟨p.2, p.1⟩ : dl7) = th p := fun p => rfl
  simp only [e2, e3, e5]
  rw [Bx7 (by omega) (by omega), Option.bind_some]
  have hj : cr7 o a b x = mJ1 (bH7 o x) (bH7 a x) (bH7 b x) := rfl
  refine (congrArg (fun z => Option.bind z _) (?_ : _ = some (c ++ oC o a b x, (cr7 o a b x).1.2, (cr7 o a b x).1.1.id, (cr7 o a b x).1.1.shape.kind, (cr7 o a b x).1.1.shape.pts, (cr7 o a b x).1.1.tags))).trans ?_
  ·unfold oC
   rw [hj] at hl ⊢
   generalize bH7 o x = so at *
   generalize bH7 a x = sa at *
   generalize bH7 b x = sb at *
   simp only [e3]
   unfold mJ1 at hl ⊢
   by_cases ht : (bz7 so sa sb).2 = true
   ·rw [if_pos ht, if_pos ht]
    simp [th]
   ·rw [if_neg ht] at hl ⊢
    rw [if_neg ht]
    by_cases h1 : sa.2 = false
    ·have e : (!sa.2) = true := by rw [h1]; rfl
     rw [if_pos e, if_pos e, if_pos h1, if_pos (aa7 (by simp; omega))]
     have hb2 : sb.2 = true := by
      cases hb2 : sb.2 with
      | true => rfl
      | false =>
       exfalso
       apply ht
       have e : sa = sb := by rw [n2 h1, n3 hb2]
       unfold bz7
       rw [e]
       by_cases q : sb = so <;> simp [q]
     simp [th, v27, hb2]
    ·have e : ¬ (!sa.2) = true := by cases h : sa.2 <;> simp_all
     have h1' : sa.2 = true := by cases h : sa.2 <;> simp_all
     rw [if_neg e, if_neg h1]
     rw [if_neg h1] at hl
     by_cases h2 : sb.2 = false
     ·have e' : (!sb.2) = true := by rw [h2]; rfl
      rw [if_pos e', if_neg e, if_pos h2, if_pos (aa7 (by simp; omega))]
      simp [th, v27, h1']
     ·have e' : ¬ (!sb.2) = true := by cases h : sb.2 <;> simp_all
      have h2' : sb.2 = true := by cases h : sb.2 <;> simp_all
      rw [if_neg e', if_neg h2]
      rw [if_neg h2] at hl
      by_cases h3 : so.2 = false
      ·have e'' : (!so.2) = true := by rw [h3]; rfl
       rw [if_pos e'', if_pos h3, if_pos (aa7 (by simp; omega))]
       simp [th, Fw7, h1']
      ·have e'' : ¬ (!so.2) = true := by cases h : so.2 <;> simp_all
       have h3' : so.2 = true := by cases h : so.2 <;> simp_all
       rw [if_neg e'', if_neg h3]
       rw [if_neg h3] at hl
       have hFJ : MO7 so.1 sa.1 sb.1 = mFJ so.1 sa.1 sb.1 := by
        unfold MO7
        rw [m1 h3', m2 h1', m3 h2', d1 h3', d2 h1', d3 h2']
        simp
       rw [v17 (by omega) (by omega) (by omega), hFJ]
       simp only [Option.bind_some]
       simp only at hl
       rw [if_pos (aa7 (by omega)), cl9 _ _ _ (by omega)]
       rfl
  ·simp only [Option.bind_some]
   have e4 : (⟨(cr7 o a b x).1.1.id, ⟨(cr7 o a b x).1.1.shape.kind, (cr7 o a b x).1.1.shape.pts⟩, (cr7 o a b x).1.1.tags⟩ : Feat) = (cr7 o a b x).1.1 := rfl
   rw [e4]
   have hcl : (oC o a b x).length ≤ 13 := by unfold oC; rw [List.length_map]; exact hl
   cases h : (cr7 o a b x).1.2
   ·rw [if_neg (by decide), tm7 ho ha hb hid hia hib l _ _ _ (by omega) (by simp; omega), List.flatMap_cons, List.flatMap_cons, of_ h]
    simp
   ·have hw := mp7 (hfe h)
    rw [if_pos rfl, f47 (by omega), Option.bind_some, if_pos (aa7 (by simp; omega)), tm7 ho ha hb hid hia hib l _ _ _ (by simp; omega) (by simp; omega), List.flatMap_cons, List.flatMap_cons, of_ h]
    simp
theorem tn7 {s : List Feat} (id : Str) (h : (bH7 s id).2 = true) : (bH7 s id).1.id = id := by
 unfold bH7 at h ⊢
 split
 ·rename_i f e
  simpa using List.find?_some e
 ·rename_i e
  rw [e] at h
  cases h
theorem to7 (wo : wL aZ7 o ≤ 1048576) (wa : wL aZ7 a ≤ 1048576) (wb : wL aZ7 b ≤ 1048576) : rh7 o a b = some (mSJ o a b) := by
 unfold rh7 mSJ
 rw [gD7 wo, gD7 wa, gD7 wb]
 cases ho : a97 o
 ·rfl
 cases ha : a97 a
 ·rfl
 cases hb : a97 b
 ·rfl
 have l1 := bu7 ho; have l2 := bu7 ha; have l3 := bu7 hb
 have hi := iY7 (o := o) (a := a) (b := b)
 have hw := FB7 ho ha hb
 simp only [Option.bind_some, Bool.not_true, Bool.false_eq_true, if_false, Bool.true_and]
 rw [Bu7 (yS7 ho) (by omega), Option.bind_some, if_pos (aa7 (by omega)), tm7 (ky7 ho) (ky7 ha) (ky7 hb) tn7 tn7 tn7 _ _ _ _ (by simp; omega) (by simp; omega), Option.bind_some]
 simp only [List.nil_append]
 rw [show (iX7 o a b).flatMap (oF o a b) = sjF o a b from rfl, gD7 (by omega), Option.bind_some]
 cases a97 (sjF o a b) <;> rfl
end
def mx7 (c : aw7) : Nat := c.id.size + (c.what.size + 0)
theorem Mp7 {α β : Type} {f : α → List β} {n : Nat} : ∀ (l : List α), (∀ x, x ∈ l → (f x).length ≤ n) → (l.flatMap f).length ≤ n * l.length
 | [], _ => Nat.zero_le _
 | x :: l, h => by
  have h1 := h x (by simp)
  have h2 := Mp7 l fun y hy => h y (by simp [hy])
  rw [List.flatMap_cons, List.length_append, List.length_cons, Nat.mul_add]
  omega
section
variable {o a b : List Feat}
theorem FC7 (ho : Sh o) (ha : Sh a) (hb : Sh b) (id : Str) : ∀ w, w ∈ (cr7 o a b id).2 → w.size ≤ 11 := by
 have m1 := by7 (id := id) ho.f
 have m2 := by7 (id := id) ha.f
 have m3 := by7 (id := id) hb.f
 unfold cr7
 generalize bH7 o id = so at *
 generalize bH7 a id = sa at *
 generalize bH7 b id = sb at *
 intro w hw
 unfold mJ1 at hw
 split at hw
 ·simp at hw
 ·split at hw
  ·rw [List.mem_singleton.1 hw]; decide
  ·split at hw
   ·rw [List.mem_singleton.1 hw]; decide
   ·split at hw
    ·rw [List.mem_singleton.1 hw]; decide
    ·rename_i h1 h2 h3
     have b1 := hT7 (m1 (by cases h : so.2 <;> simp_all))
     have b2 := hT7 (m2 (by cases h : sa.2 <;> simp_all))
     have b3 := hT7 (m3 (by cases h : sb.2 <;> simp_all))
     unfold mFJ at hw
     split at hw
     ·unfold fjW at hw
      rcases List.mem_append.1 hw with h | h
      ·split at h
       ·cases h
       ·rw [List.mem_singleton.1 h]; decide
      ·obtain ⟨k, hk, h⟩ := List.mem_flatMap.1 h
       have := iW7 b1 b2 b3 k hk
       unfold wOf at h
       split at h
       ·cases h
       ·rw [List.mem_singleton.1 h, ByteArray.size_append]
        have e : tagW.size = 4 := rfl
        omega
     ·rw [List.mem_singleton.1 hw]; decide
theorem By7 (h : (mSJ o a b).2.2 = true) : a97 (mSJ o a b).1 = true ∧ wL aZ7 (mSJ o a b).1 ≤ 10000 := by
 unfold mSJ at h ⊢
 split
 ·rename_i hc
  simp only [Bool.and_eq_true] at hc
  exact ⟨hc.2.2.2, FB7 hc.1 hc.2.1 hc.2.2.1⟩
 ·rename_i hc
  rw [if_neg hc] at h
  cases h
theorem Bz7 : wL mx7 (mSJ o a b).2.1 ≤ 100000 := by
 unfold mSJ
 split
 ·rename_i hc
  simp only [Bool.and_eq_true] at hc
  have so := ky7 hc.1; have sa := ky7 hc.2.1; have sb := ky7 hc.2.2.1
  have l1 := bu7 hc.1; have l2 := bu7 hc.2.1; have l3 := bu7 hc.2.2.1
  have hi := iY7 (o := o) (a := a) (b := b)
  have hl : (sjC o a b).length ≤ 13 * (iX7 o a b).length := Mp7 _ fun id _ => by
   unfold oC
   rw [List.length_map]
   exact y67 so sa sb id
  have hw : ∀ c, c ∈ sjC o a b → mx7 c ≤ 18 := fun c hc => by
   obtain ⟨id, hid, h⟩ := List.mem_flatMap.1 hc
   unfold oC at h
   obtain ⟨w, hw, rfl⟩ := List.mem_map.1 h
   have h1 := FC7 so sa sb id w hw
   have h2 : id.size ≤ 7 := by
    rcases se7.1 hid with h | h | h <;> obtain ⟨f, hf, rfl⟩ := List.mem_map.1 h
    ·exact (hT7 (so.f f hf)).id
    ·exact (hT7 (sa.f f hf)).id
    ·exact (hT7 (sb.f f hf)).id
   unfold mx7
   simp only
   omega
  have := mv7 (w := mx7) (c := 18) hw
  unfold wL
  simp only
  omega
 ·exact Nat.zero_le _
end
def Mq7 (r : am7) (k : Int) : List Feat := ((r.commits[k.toNat]?).map Commit.sheet).getD []
theorem g37 {r : am7} {k : Nat} {x : Commit} (h : r.commits[k]? = some x) : Mq7 r (k : Int) = x.sheet := by
 unfold Mq7
 rw [Int.toNat_natCast, h]
 rfl
noncomputable def aL7 (r : am7) (a b : Int) : List Feat × List aw7 × Bool :=
 if (inR r a && inR r b) = true then mSJ (Mq7 r (cR7 r a b)) (Mq7 r a) (Mq7 r b) else ([], [], false)
theorem za7 {r : am7} {a b : Int} (hw : a37 r ≤ 1048576) : n07 r a b = some (aL7 r a b) := by
 unfold n07 aL7
 rw [vY7 hw, Option.bind_some]
 by_cases h : (inR r a && inR r b) = true
 ·rw [if_pos h]
  simp only [Bool.and_eq_true] at h
  obtain ⟨hr, x, rfl, hx⟩ := kf7 h.1
  obtain ⟨_, y, rfl, hy⟩ := kf7 h.2
  obtain ⟨k, k1, k2, _, _⟩ := ki7 hr hx hy
  obtain ⟨c1, h1⟩ := gY7 hx
  obtain ⟨c2, h2⟩ := gY7 hy
  obtain ⟨c3, h3⟩ := gY7 k2
  rw [k1, if_neg (by simp), ag7, h3, Option.bind_some, ag7, h1, Option.bind_some, ag7, h2, Option.bind_some, to7 (jC7 hw h3) (jC7 hw h1) (jC7 hw h2), g37 h1, g37 h2, g37 h3]
  rfl
 ·rw [iR7 h, if_neg h]
  rfl
theorem zb7 {r : am7} {a b : Int} (hw : a37 r ≤ 1048576) : nP7 r a b = some (aL7 r a b) := by
 unfold nP7 aL7
 rw [vX7 hw, Option.bind_some]
 by_cases h : (inR r a && inR r b) = true
 ·rw [if_pos h]
  simp only [Bool.and_eq_true] at h
  obtain ⟨hr, x, rfl, hx⟩ := kf7 h.1
  obtain ⟨_, y, rfl, hy⟩ := kf7 h.2
  obtain ⟨k, k1, k2, _, _⟩ := ki7 hr hx hy
  obtain ⟨c1, h1⟩ := gY7 hx
  obtain ⟨c2, h2⟩ := gY7 hy
  obtain ⟨c3, h3⟩ := gY7 k2
  rw [k1, if_neg (by simp), ag7, h3, Option.bind_some, ag7, h1, Option.bind_some, ag7, h2, Option.bind_some, tl7 (jC7 hw h3) (jC7 hw h1) (jC7 hw h2), g37 h1, g37 h2, g37 h3]
  rfl
 ·rw [iR7 h, if_neg h]
  rfl
theorem BA7 {r : am7} {a b : Int} (h : (aL7 r a b).2.2 = true) : a97 (aL7 r a b).1 = true ∧ wL aZ7 (aL7 r a b).1 ≤ 10000 := by
 unfold aL7 at h ⊢
 split
 ·rename_i h1
  rw [if_pos h1] at h
  exact By7 h
 ·rename_i h1
  rw [if_neg h1] at h
  cases h
def sf7 (r : am7) (i : Nat) (z : Head) (c : Commit) : Bool × am7 :=
 if dV7 r.commits c < 0 then (if r.commits.length = 14 then (false, r) else (true, ⟨r.commits ++ [c], eD7 r.heads i z r.commits.length⟩)) else (true, ⟨r.commits, eD7 r.heads i z (dV7 r.commits c)⟩)
theorem Qo7 {r : am7} {i : Nat} {z : Head} {c : Commit} (hw : a37 r ≤ 1048576) (hz : r.heads[i]? = some z) (hc : ay7 c ≤ 1048576) : ri7 r (i : Int) c = some (sf7 r i z c) := by
 have hcw : wL ay7 r.commits ≤ 1048576 := by unfold a37 at hw; omega
 have hcl : r.commits.length ≤ 1048576 := by unfold wL at hcw; omega
 unfold ri7 sf7
 rw [iK7 hcw]
 simp only [Option.bind_some]
 by_cases f1 : dV7 r.commits c < 0
 ·by_cases f2 : r.commits.length = 14
  ·simp [f1, f2]
  ·have f2' : ¬ ((r.commits.length : Int) = 14) := by omega
   have hfit : aE7 (r.commits.length + 1) = true := by unfold aE7; exact decide_eq_true (by omega)
   simp [f1, f2, f2', iN7 hc, ag7, hz, hfit, eD7]
 ·simp [f1, ag7, hz, eD7]
theorem BB7 {c : Commit} (h : ay7 c ≤ 1048576) : j17 c = some c := by
 unfold ay7 wL at h
 unfold j17
 rw [if_pos (aa7 (by simp; omega)), pj7 (by unfold wL; omega)]
 rfl
theorem uX7 {r : am7} {i : Nat} {z : Head} {c : Commit} (hw : a37 r ≤ 1048576) (hz : r.heads[i]? = some z) (hc : ay7 c ≤ 1048576) (h : (sf7 r i z c).1 = true) : it7 r (i : Int) c = some (sf7 r i z c).2 := by
 have hcw : wL ay7 r.commits ≤ 1048576 := by unfold a37 at hw; omega
 have hcl : r.commits.length ≤ 1048576 := by unfold wL at hcw; omega
 unfold it7
 unfold sf7 at h ⊢
 rw [kN7 hcw]
 simp only [Option.bind_some]
 by_cases f1 : dV7 r.commits c < 0
 ·by_cases f2 : r.commits.length = 14
  ·simp [f1, f2] at h
  ·have hfit : aE7 (r.commits.length + 1) = true := by unfold aE7; exact decide_eq_true (by omega)
   simp [f1, f2, BB7 hc, ag7, hz, hfit, eD7]
 ·simp [f1, ag7, hz, eD7]
noncomputable def mJW (r : am7) (i : Nat) (z : Head) (b : Int) (t : Str) : am7 × List aw7 × Int :=
 if (aL7 r z.at_ b).2.2 = true then
  if (aL7 r z.at_ b).2.1 = [] then
   if (sf7 r i z ⟨[z.at_, b], (aL7 r z.at_ b).1, t⟩).1 = true then ((sf7 r i z ⟨[z.at_, b], (aL7 r z.at_ b).1, t⟩).2, [], 0) else (r, [], 5)
  else (r, (aL7 r z.at_ b).2.1, 3)
 else (r, [], 5)
open Classical in
noncomputable def mJH (r : am7) (n f t : Str) : am7 × List aw7 × Int :=
 if (bp7 r && bb7 t) = true then
  match idx r.heads (aV7 r.heads n), idx r.heads (aV7 r.heads f) with
  | some z, some y =>
   if Anc r.commits z.at_.toNat y.at_.toNat then (r, [], 1)
   else if Anc r.commits y.at_.toNat z.at_.toNat then (⟨r.commits, eD7 r.heads (aV7 r.heads n).toNat z y.at_⟩, [], 2)
   else mJW r (aV7 r.heads n).toNat z y.at_ t
  | _, _ => (r, [], 4)
 else (⟨[], []⟩, [], 6)
theorem zc7 {t : Str} (h : bb7 t = true) : t.size ≤ 6 := by
 unfold bb7 at h
 simp only [Bool.and_eq_true, decide_eq_true_eq] at h
 exact h.2.2
theorem my7 {r : am7} {z : Head} {b : Int} {t : Str} (ht : bb7 t = true) (h : (aL7 r z.at_ b).2.2 = true) : ay7 ⟨[z.at_, b], (aL7 r z.at_ b).1, t⟩ ≤ 20000 := by
 have h1 := BA7 h
 have h2 := zc7 ht
 unfold ay7
 simp [wL, hW7, w0] at h1 ⊢
 omega
open Classical in
theorem sg7 {r : am7} {n f t : Str} (hw : a37 r ≤ 1048576) (ht : t.size ≤ 1048576) (hJ : ∀ z y, idx r.heads (aV7 r.heads n) = some z → idx r.heads (aV7 r.heads f) = some y → n07 r z.at_ y.at_ = some (aL7 r z.at_ y.at_)) : hn7 r n f t = some (mJH r n f t) := by
 have hh : r.heads.length ≤ 1048576 := by unfold a37 wL at hw; omega
 unfold hn7 mJH
 rw [kO7 hw, fZ7 ht, mg7 hw, db7 hh, db7 hh]
 simp only [Option.bind_some]
 by_cases hr : bp7 r = true
 ·by_cases h2 : bb7 t = true
  ·have hl := fY7 hr
   have hc := dr7 hr
   have hcl : r.commits.length ≤ 1048576 := by omega
   rw [hr, h2]
   rcases gE7 hr n with h | ⟨k, a, z, g1, g2, g3, g4, g5⟩
   ·rw [h]
    rfl
   ·rcases gE7 hr f with h' | ⟨j, b, y, q1, q2, q3, q4, q5⟩
    ·rw [h', g1, ag7, g2]
     have e1 : ¬ ((k : Int) < 0) := by omega
     simp [e1, idx]
    ·have e1 : ¬ ((k : Int) < 0) := by omega
     have e2 : ¬ ((j : Int) < 0) := by omega
     have hj := hJ z y (by rw [g1, ag7, g2]) (by rw [q1, ag7, q2])
     rw [q4] at hj
     rw [g1, q1, ag7, ag7, g2, q2]
     simp only [Bool.not_true, Bool.and_self, Bool.false_eq_true, if_true, if_false, Option.bind_some, e1, e2, decide_false, g4, q4, Int.toNat_natCast, rQ7 hc hcl g5, rQ7 hc hcl q5, ag7, e67 g5, e67 q5, decide_eq_true_eq]
     by_cases a1 : Anc r.commits a b
     ·rw [if_pos a1, if_pos a1]
     ·rw [if_neg a1, if_neg a1]
      by_cases a2 : Anc r.commits b a
      ·rw [if_pos a2, if_pos a2]
       rfl
      ·rw [if_neg a2, if_neg a2]
       unfold mJW
       rw [← g4] at *
       rw [hj, Option.bind_some]
       by_cases j1 : (aL7 r z.at_ b).2.2 = true
       ·by_cases j2 : (aL7 r z.at_ b).2.1 = []
        ·have hcm := my7 (b := (b : Int)) h2 j1
         rw [Qo7 hw g2 (by omega)]
         simp only [j1, j2, Option.bind_some, Bool.not_true, Bool.false_eq_true, if_false, List.length_nil, if_true]
         cases hs : (sf7 r k z ⟨[z.at_, (b : Int)], (aL7 r z.at_ b).1, t⟩).1
         ·have : (sf7 r k z ⟨[z.at_, (b : Int)], (aL7 r z.at_ b).1, t⟩).2 = r := by
           unfold sf7 at hs ⊢
           split at hs
           ·split at hs
            ·rename_i u1 u2
             rw [if_pos u1, if_pos u2]
            ·cases hs
           ·cases hs
          simp [this]
         ·simp
        ·have j2' : ((aL7 r z.at_ b).2.1.length : Int) > 0 := by
          have := List.length_pos_iff.2 j2
          omega
         simp only [j1, Bool.not_true, Bool.false_eq_true, if_false, j2', decide_true, if_true, j2]
       ·simp only [Bool.not_eq_true] at j1
        simp only [j1, Bool.not_false, if_true, Bool.false_eq_true, if_false]
  ·simp only [Bool.not_eq_true] at h2
   rw [hr, h2]
   rfl
 ·simp only [Bool.not_eq_true] at hr
  rw [hr]
  rfl
theorem hV7 {r : am7} {n f t : Str} (hw : a37 r ≤ 1048576) (ht : t.size ≤ 1048576) : hn7 r n f t = some (mJH r n f t) := sg7 hw ht fun z y _ _ => za7 hw
open Classical in
theorem mz7 {r : am7} {i k : Nat} (hw : a37 r ≤ 1048576) (hr : bp7 r = true) (hi : i < r.commits.length) (hk : k < r.commits.length) : nQ7 r (i : Int) (k : Int) = some (decide (Anc r.commits k i)) := by
 have hl := fY7 hr
 unfold nQ7
 rw [uE7 hw, Option.bind_some, hr, if_pos (by simp; omega), uE7 hw, Option.bind_some, hr, if_pos (by simp; omega), jy7 (dr7 hr) (by omega) hk, Option.bind_some, ag7, e67 hi]
 rfl
open Classical in
theorem sh7 {r : am7} {n f t : Str} (hw : a37 r ≤ 1048576) (ht : t.size ≤ 1048576) (hJ : ∀ z y, idx r.heads (aV7 r.heads n) = some z → idx r.heads (aV7 r.heads f) = some y → nP7 r z.at_ y.at_ = some (aL7 r z.at_ y.at_)) : n17 r n f t = some (mJH r n f t) := by
 have hh : r.heads.length ≤ 1048576 := by unfold a37 wL at hw; omega
 unfold n17 mJH
 rw [ph7 hw, eB7 ht, pk7 hw, g07 hh, g07 hh]
 simp only [Option.bind_some]
 by_cases hr : bp7 r = true
 ·by_cases h2 : bb7 t = true
  ·have hl := fY7 hr
   have hc := dr7 hr
   have hcl : r.commits.length ≤ 1048576 := by omega
   have hcw : wL ay7 r.commits ≤ 1048576 := by unfold a37 at hw; omega
   rw [hr, h2]
   rcases gE7 hr n with h | ⟨k, a, z, g1, g2, g3, g4, g5⟩
   ·rw [h]
    rfl
   ·rcases gE7 hr f with h' | ⟨j, b, y, q1, q2, q3, q4, q5⟩
    ·rw [h', g1, ag7, g2]
     have e1 : ¬ ((k : Int) < 0) := by omega
     simp [e1, idx]
    ·have e1 : ¬ ((k : Int) < 0) := by omega
     have e2 : ¬ ((j : Int) < 0) := by omega
     have hj := hJ z y (by rw [g1, ag7, g2]) (by rw [q1, ag7, q2])
     rw [q4] at hj
     rw [g1, q1, ag7, ag7, g2, q2]
     simp only [Bool.not_true, Bool.and_self, Bool.false_eq_true, if_true, if_false, Option.bind_some, e1, e2, decide_false, g4, q4, Int.toNat_natCast, mz7 hw hr g5 q5, mz7 hw hr q5 g5, decide_eq_true_eq]
     by_cases a1 : Anc r.commits a b
     ·rw [if_pos a1, if_pos a1]
     ·rw [if_neg a1, if_neg a1]
      by_cases a2 : Anc r.commits b a
      ·rw [if_pos a2, if_pos a2]
       rfl
      ·rw [if_neg a2, if_neg a2]
       unfold mJW ui7
       rw [← g4] at *
       rw [hj, Option.bind_some]
       by_cases j1 : (aL7 r z.at_ b).2.2 = true
       ·by_cases j2 : (aL7 r z.at_ b).2.1 = []
        ·have hcm := my7 (b := (b : Int)) h2 j1
         rw [kN7 hcw]
         simp only [j1, j2, Option.bind_some, Bool.not_true, Bool.false_eq_true, if_false, List.length_nil, if_true]
         by_cases f1 : dV7 r.commits ⟨[z.at_, (b : Int)], (aL7 r z.at_ b).1, t⟩ < 0
         ·by_cases f2 : r.commits.length = 14
          ·simp [sf7, f1, f2]
          ·have f2' : ¬ ((14 : Int) ≤ (r.commits.length : Int)) := by omega
           have hs : (sf7 r k z ⟨[z.at_, (b : Int)], (aL7 r z.at_ b).1, t⟩).1 = true := by simp [sf7, f1, f2]
           rw [uX7 hw g2 (by omega) hs, hs]
           simp [f1, f2']
         ·have hs : (sf7 r k z ⟨[z.at_, (b : Int)], (aL7 r z.at_ b).1, t⟩).1 = true := by simp [sf7, f1]
          rw [uX7 hw g2 (by omega) hs, hs]
          simp [f1]
        ·have j2' : ((aL7 r z.at_ b).2.1.length : Int) > 0 := by
          have := List.length_pos_iff.2 j2
          omega
         simp only [j1, Bool.not_true, Bool.false_eq_true, if_false, j2', decide_true, if_true, j2, Option.bind_some]
       ·simp only [Bool.not_eq_true] at j1
        simp only [j1, Bool.not_false, if_true, Bool.false_eq_true, if_false, Option.bind_some]
  ·simp only [Bool.not_eq_true] at h2
   rw [hr, h2]
   rfl
 ·simp only [Bool.not_eq_true] at hr
  rw [hr]
  rfl
theorem tp7 {r : am7} {n f t : Str} (hw : a37 r ≤ 1048576) (ht : t.size ≤ 1048576) : n17 r n f t = some (mJH r n f t) := sh7 hw ht fun z y _ _ => zb7 hw
theorem BC7 {r : am7} {a b : Int} : wL mx7 (aL7 r a b).2.1 ≤ 100000 := by
 unfold aL7
 split
 ·exact Bz7
 ·exact Nat.zero_le _
theorem mA7 {hs : List Head} {i : Nat} {h : Head} {v : Int} (hh : hs[i]? = some h) : wL gi7 (eD7 hs i h v) ≤ wL gi7 hs := by
 have := pl7 (w := gi7) hs i h ⟨h.name, v⟩ hh (Nat.le_refl _)
 unfold wL eD7
 simp only [List.length_set]
 omega
theorem Mr7 {r : am7} {i : Nat} {z : Head} {c : Commit} (hz : r.heads[i]? = some z) : a37 (sf7 r i z c).2 ≤ a37 r + (1 + ay7 c) := by
 unfold sf7
 split
 ·split
  ·exact Nat.le_add_right _ _
  ·have h1 := mA7 (v := r.commits.length) hz
   have h2 := iO7 (w := ay7) r.commits c
   unfold a37
   unfold wL at *
   simp only [List.length_append, List.length_singleton]
   omega
 ·have h1 := mA7 (v := dV7 r.commits c) hz
  unfold a37
  simp only
  omega
theorem Qp7 {r : am7} {i : Nat} {z : Head} {b : Int} {t : Str} (hz : r.heads[i]? = some z) (ht : bb7 t = true) : a37 (mJW r i z b t).1 ≤ a37 r + 20001 ∧ wL mx7 (mJW r i z b t).2.1 ≤ 100000 := by
 have hc := BC7 (r := r) (a := z.at_) (b := b)
 unfold mJW
 split
 ·rename_i h1
  have hw := my7 (b := b) ht h1
  split
  ·split
   ·have := Mr7 (c := ⟨[z.at_, b], (aL7 r z.at_ b).1, t⟩) hz
    exact ⟨by simp only; omega, Nat.zero_le _⟩
   ·exact ⟨by simp only; omega, Nat.zero_le _⟩
  ·exact ⟨by simp only; omega, hc⟩
 ·exact ⟨by simp only; omega, Nat.zero_le _⟩
theorem Ms7 {r : am7} {n f t : Str} : a37 (mJH r n f t).1 ≤ a37 r + 20001 ∧ wL mx7 (mJH r n f t).2.1 ≤ 100000 := by
 unfold mJH
 split
 ·rename_i h
  simp only [Bool.and_eq_true] at h
  split
  ·rename_i z y hz hy
   have hz' := (aJ7 hz).2
   split
   ·exact ⟨by simp only; omega, Nat.zero_le _⟩
   ·split
    ·have h1 := mA7 (v := y.at_) hz'
     refine ⟨?_, Nat.zero_le _⟩
     unfold a37
     simp only
     omega
    ·exact Qp7 hz' h.2
  ·exact ⟨by simp only; omega, Nat.zero_le _⟩
 ·exact ⟨Nat.zero_le _, Nat.zero_le _⟩
section
variable {o a b : Feat}
end
section
variable {o a b : List Feat}
end
theorem Mt7 (x y : aw7) : ((x.id == y.id) && ((x.what == y.what) && true)) = decide (x = y) := by
 obtain ⟨a, b⟩ := x; obtain ⟨c, d⟩ := y
 simp only [Hk7]
 by_cases h1 : a = c <;> by_cases h2 : b = d <;> simp [h1, h2]
theorem tq7 {a b : List aw7} (h : a.length ≤ 1048576) : rz7 a b = some (decide (a = b)) := by
 have h1 : uw7 a b = some (decide (a = b)) := cL7 (gl := fT7) (ok := fun _ => True) (fun _ _ => rfl) (fun a x l k y _ hy => by
  simp only [fT7, ag7, hy, Option.bind_some, Mt7]
  by_cases e : x = y <;> simp [e]) (fun _ _ => rfl) h (fun _ _ => trivial)
 unfold rz7
 rw [h1]
 rfl
theorem si7 (code : List UInt8) : ∃ r n f t, rA7 code = some (r, n, f, t) ∧ bR r ∧ n ∈ nm3 ∧ f ∈ nm3 ∧ t.size ≤ 7 := by
 obtain ⟨b, h0, hb⟩ := Fm7 code
 obtain ⟨r, p1, h1, a1, b1, hr⟩ := yH7 b 0 hb (by omega) (by omega)
 obtain ⟨n, p2, h2, a2, b2, hn⟩ := mi7 b p1 hb (by omega) (by omega)
 obtain ⟨f, p3, h3, a3, b3, hf⟩ := mi7 b p2 hb (by omega) (by omega)
 obtain ⟨t, p4, h4, a4, b4, ht⟩ := rW7 (l := [(⟨#[97, 110, 110]⟩ : Str), (⟨#[106, 111, 105, 110]⟩ : Str), (⟨#[]⟩ : Str), (⟨#[98, 111, 98]⟩ : Str)]) (by simp) b p3 hb (by omega) (by omega)
 simp only at h2 h3 h4
 unfold rA7
 rw [h0, Option.bind_some, h1, Option.bind_some]
 simp only
 rw [h2, Option.bind_some]
 simp only
 rw [h3, Option.bind_some]
 simp only
 rw [h4]
 exact ⟨r, n, f, t, rfl, hr, hn, hf, (by decide : ∀ y ∈ [(⟨#[97, 110, 110]⟩ : Str), (⟨#[106, 111, 105, 110]⟩ : Str), (⟨#[]⟩ : Str), (⟨#[98, 111, 98]⟩ : Str)], y.size ≤ 7) t ht⟩
structure At (r : am7) (n : Str) (i : Nat) (z : Head) (a : Nat) : Prop where
 repo : bp7 r = true
 hd : aV7 r.heads n = (i : Int)
 get : r.heads[i]? = some z
 name : z.name = n
 at_ : z.at_ = (a : Int)
 lt : a < r.commits.length
theorem At.of {r : am7} (hr : bp7 r = true) (n : Str) : aV7 r.heads n = -1 ∨ ∃ i z a, At r n i z a := by
 rcases gE7 hr n with h | ⟨k, a, z, g1, g2, g3, g4, g5⟩
 ·exact .inl h
 ·exact .inr ⟨k, z, a, hr, g1, g2, g3, g4, g5⟩
theorem At.repoAt {r : am7} {n : Str} {i a : Nat} {z : Head} (h : At r n i z a) : dY7 r n = (a : Int) := by rw [yO7 h.repo h.hd h.get, h.at_]
theorem zd7 {r : am7} {n : Str} (h : aV7 r.heads n = -1) : dY7 r n = -1 := by
 unfold dY7
 rw [h]
 split <;> rfl
theorem tr7 {r : am7} {n f t : Str} (h : ¬ (bp7 r && bb7 t) = true) : mJH r n f t = (⟨[], []⟩, [], 6) := by
 unfold mJH
 rw [if_neg h]
theorem ts7 {r : am7} {n f t : Str} (hr : bp7 r = true) (ht : bb7 t = true) (h : aV7 r.heads n = -1 ∨ aV7 r.heads f = -1) : mJH r n f t = (r, [], 4) := by
 unfold mJH
 rw [if_pos (by rw [hr, ht]; rfl)]
 split
 ·rename_i z y h1 h2
  have g1 := (aJ7 h1).1
  have g2 := (aJ7 h2).1
  omega
 ·rfl
open Classical in
theorem Cs7 {r : am7} {n f t : Str} {i j a b : Nat} {z y : Head} (ht : bb7 t = true) (h1 : At r n i z a) (h2 : At r f j y b) : mJH r n f t =
  if Anc r.commits a b then (r, [], 1) else if Anc r.commits b a then (⟨r.commits, eD7 r.heads i z b⟩, [], 2) else mJW r i z b t := by
 unfold mJH
 rw [if_pos (by rw [h1.repo, ht]; rfl), h1.hd, h2.hd, ag7, ag7, h1.get, h2.get]
 simp only [h1.at_, h2.at_, Int.toNat_natCast]
structure Fused (r : am7) (t : Str) (i : Nat) (z : Head) (a b : Nat) (q : am7) (m : Nat) : Prop where
 heads : q.heads = r.heads.set i ⟨z.name, (m : Int)⟩
 comm : (q.commits = r.commits ∧ m < r.commits.length) ∨ (q.commits = r.commits ++ [⟨[(a : Int), (b : Int)], (aL7 r a b).1, t⟩] ∧ m = r.commits.length ∧ r.commits.length < 14)
 get : q.commits[m]? = some ⟨[(a : Int), (b : Int)], (aL7 r a b).1, t⟩
 repo' : bp7 q = true
 ok : (aL7 r a b).2.2 = true
 none : (aL7 r a b).2.1 = []
 w : a37 q ≤ a37 r + 20001
section
variable {r : am7} {n f t : Str} {i j a b : Nat} {z y : Head}
end
section
variable {r q : am7} {n f t : Str} {i j a b m : Nat} {z y : Head}
theorem Fused.anc (h : Fused r t i z a b q m) (hr : bp7 r = true) (ha : a < r.commits.length) (hb : b < r.commits.length) {u : Nat} : Anc q.commits m u ↔ u = m ∨ Anc r.commits a u ∨ Anc r.commits b u := by
 have hp : ∀ {c u : Nat}, c < r.commits.length → (Anc q.commits c u ↔ Anc r.commits c u) := fun {c u} hc => by
  rcases h.comm with ⟨e, _⟩ | ⟨e, _, _⟩
  ·rw [e]
  ·rw [e]
   exact yP7 (dr7 hr) hc
 constructor
 ·intro h1
  rcases h1.head' with h2 | ⟨x, v, h2, h3, h4⟩
  ·exact .inl h2.symm
  ·rw [h.get] at h2
   cases h2
   simp only [List.mem_cons, List.not_mem_nil, or_false] at h3
   rcases h3 with rfl | rfl
   ·exact .inr (.inl ((hp ha).1 (by simpa using h4)))
   ·exact .inr (.inr ((hp hb).1 (by simpa using h4)))
 ·have up1 : ∀ v : Nat, (v : Int) ∈ [(a : Int), (b : Int)] → Anc q.commits m v := fun v hv => by
   have h1 : Anc q.commits m ((v : Int).toNat) := .up (.refl m) h.get hv
   simpa using h1
  rintro (rfl | h1 | h1)
  ·exact .refl _
  ·exact (up1 a (by simp)).trans ((hp ha).2 h1)
  ·exact (up1 b (by simp)).trans ((hp hb).2 h1)
theorem Fused.take (h : Fused r t i z a b q m) : q.commits.take r.commits.length = r.commits := by
 rcases h.comm with ⟨e, _⟩ | ⟨e, _, _⟩
 ·rw [e, List.take_length]
 ·rw [e, List.take_left]
theorem Fused.len (h : Fused r t i z a b q m) : r.commits.length ≤ q.commits.length ∧ q.commits.length ≤ r.commits.length + 1 ∧ m < q.commits.length := by
 refine ⟨?_, ?_, gC7 h.get⟩
 ·rcases h.comm with ⟨e, _⟩ | ⟨e, _, _⟩ <;> rw [e] <;> simp
 ·rcases h.comm with ⟨e, _⟩ | ⟨e, _, _⟩ <;> rw [e] <;> simp
end
def sj7 : Str := ⟨#[110, 111, 98, 111, 100, 121]⟩
theorem Mu7 {r : am7} {n t : Str} : ((mJH r n n t).2.2 = 6 ∧ ¬ (bp7 r && bb7 t) = true ∧ mJH r n n t = (⟨[], []⟩, [], 6)) ∨ (bp7 r = true ∧ bb7 t = true ∧ aV7 r.heads n = -1 ∧ mJH r n n t = (r, [], 4)) ∨ (bb7 t = true ∧ (∃ i z a, At r n i z a) ∧ mJH r n n t = (r, [], 1)) := by
 by_cases h : (bp7 r && bb7 t) = true
 ·simp only [Bool.and_eq_true] at h
  rcases At.of h.1 n with h1 | ⟨i, z, a, h1⟩
  ·exact .inr (.inl ⟨h.1, h.2, h1, ts7 h.1 h.2 (.inl h1)⟩)
  ·exact .inr (.inr ⟨h.2, ⟨i, z, a, h1⟩, by rw [Cs7 h.2 h1 h1, if_pos (.refl a)]⟩)
 ·exact .inl ⟨by rw [tr7 h], h, tr7 h⟩
theorem m67 (code : List UInt8) : ux7 code = some true := by
 unfold ux7
 by_cases hs : (code.length : Int) > 1048576
 ·rw [if_pos (by simpa using hs)]
 rw [if_neg (by simpa using hs)]
 obtain ⟨r, n, f, t, h, hb, hn, _, ht⟩ := si7 code
 have hwb := Ql7 hb
 have hw : a37 r ≤ 1048576 := by omega
 have hjw := Ms7 (r := r) (n := n) (f := n) (t := t)
 have hjw2 := Ms7 (r := r) (n := n) (f := sj7) (t := t)
 rw [h, Option.bind_some]
 simp only
 have hcl : (mJH r n n t).2.1.length ≤ 100000 := by have := hjw.2; unfold wL at this; omega
 rw [hV7 hw (by omega), Option.bind_some, Option.bind_some, tp7 hw (by omega), Option.bind_some]
 simp only [pp7]
 rw [if_neg (by simp), jB7 (by omega), Option.bind_some, if_neg (by simp), tq7 (by omega), Option.bind_some, if_neg (by simp)]
 have hno : aV7 r.heads sj7 = -1 := Fo7 (n := sj7) (by unfold nm3 sj7; simp only [List.mem_cons, List.not_mem_nil, or_false]; decide) hb.2.2.2
 have e0 : hn7 r n (⟨#[110, 111, 98, 111, 100, 121]⟩ : Str) t = some (mJH r n sj7 t) := hV7 hw (by omega)
 rcases Mu7 (r := r) (n := n) (t := t) with ⟨_, h2, e⟩ | ⟨hr, h2, h3, e⟩ | ⟨h2, ⟨i, z, a, h3⟩, e⟩
 ·rw [e, e0, tr7 h2]
  rfl
 ·rw [e, e0, ts7 hr h2 (.inr hno)]
  simp only [Option.bind_some, pp7]
  rw [if_neg (by simp), if_neg (by decide), jB7 hw, Option.bind_some, if_neg (by simp), if_neg (by decide), Option.bind_some, if_neg (by simp), r07 hw, Option.bind_some, zd7 h3]
  rfl
 ·have hr := h3.repo
  rw [e, e0, ts7 hr h2 (.inr hno)]
  simp only [Option.bind_some, pp7]
  rw [if_neg (by simp), if_neg (by decide), jB7 hw, Option.bind_some, if_neg (by simp), if_neg (by decide), Option.bind_some, if_neg (by simp), r07 hw, Option.bind_some, h3.repoAt, if_neg (by simp), if_neg (by decide)]
  by_cases hl : (r.heads.length : Int) ≥ 4
  ·rw [if_pos (decide_eq_true hl)]
  ·rw [if_neg (by simpa using hl)]
   have htw := Fn7 fun z hz => hb.2.2.2 z hz
   have e1 : n87 r (⟨#[116, 119, 105, 110]⟩ : Str) n = some (⟨r.commits, r.heads ++ [⟨twin, z.at_⟩]⟩, 0) := by
    have h4 := rU7 (r := r) (n := twin) (f := n) hw (by decide)
    rw [te7 hr (by decide) h3.hd h3.get htw (by omega)] at h4
    exact h4
   rw [e1]
   simp only [Option.bind_some]
   have hz4 := Ba7 hr h3.get
   have hq := rZ7 (n := twin) (v := z.at_) hr (by decide) (by omega) htw hz4.2.2.1 hz4.2.2.2
   have hww : a37 ⟨r.commits, r.heads ++ [(⟨twin, z.at_⟩ : Head)]⟩ ≤ 1048576 := by
    have e : twin.size = 4 := by decide
    rw [r17]
    simp only
    omega
   have a1 : At ⟨r.commits, r.heads ++ [(⟨twin, z.at_⟩ : Head)]⟩ n i z a := ⟨hq, by simp only; rw [yK7 (by rw [h3.hd]; omega), h3.hd], by simp only; rw [List.getElem?_append_left (gC7 h3.get), h3.get], h3.name, h3.at_, h3.lt⟩
   have a2 : At ⟨r.commits, r.heads ++ [(⟨twin, z.at_⟩ : Head)]⟩ twin r.heads.length ⟨twin, z.at_⟩ a := ⟨hq, yL7 (z := ⟨twin, z.at_⟩) htw, by simp, rfl, h3.at_, h3.lt⟩
   have e2 : hn7 ⟨r.commits, r.heads ++ [(⟨twin, z.at_⟩ : Head)]⟩ n (⟨#[116, 119, 105, 110]⟩ : Str) t = some (⟨r.commits, r.heads ++ [(⟨twin, z.at_⟩ : Head)]⟩, [], 1) := by
    have h4 := hV7 (r := ⟨r.commits, r.heads ++ [(⟨twin, z.at_⟩ : Head)]⟩) (n := n) (f := twin) (t := t) hww (by omega)
    rw [Cs7 h2 a1 a2, if_pos (.refl a)] at h4
    exact h4
   rw [e2, Option.bind_some]
   rfl
section
variable {o a b : List Feat}
end
section
variable {r q : am7} {n t : Str} {s : List Feat} {i k : Nat} {z : Head} {x : Commit}
theorem Added.at (h : Added r n t s i z x q k) : At q n i ⟨z.name, (k : Int)⟩ k := ⟨h.repo', h.head.1, h.head.2, h.name, rfl, gC7 h.get⟩
theorem Added.len (h : Added r n t s i z x q k) : r.commits.length ≤ q.commits.length ∧ q.commits.length ≤ r.commits.length + 1 := by
 rcases h.comm with ⟨e, _⟩ | ⟨e, _, _⟩ <;> rw [e] <;> simp
theorem Added.anc (h : Added r n t s i z x q k) {c u : Nat} (hc : c < r.commits.length) : Anc q.commits c u ↔ Anc r.commits c u := by
 rcases h.comm with ⟨e, _⟩ | ⟨e, _, _⟩
 ·rw [e]
 ·rw [e]
  exact yP7 (dr7 h.repo) hc
theorem Added.up (h : Added r n t s i z x q k) {a : Nat} (ha : z.at_ = (a : Int)) {u : Nat} (hal : a < r.commits.length) : Anc q.commits k u ↔ k = u ∨ Anc r.commits a u := by
 rw [Fp7 h.get (by simp only; rw [ha]), h.anc hal]
end
end Go.Proofs.AM
