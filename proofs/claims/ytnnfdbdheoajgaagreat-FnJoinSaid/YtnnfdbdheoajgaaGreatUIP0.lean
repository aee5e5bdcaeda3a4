/- Lemmas of the proof (UIP0), on an abstract machine. Conditions: none. -/
import Derived.Test.YtnnfdbdheoajgaaGreatUID
import Derived.Test.YtnnfdbdheoajgaaGreatM2
import Derived.Test.YtnnfdbdheoajgaaGreatHT
import Derived.Test.YtnnfdbdheoajgaaGreatHN
import Derived.Test.YtnnfdbdheoajgaaGreatHV
set_option linter.unusedVariables false
set_option linter.unusedSimpArgs false
set_option maxRecDepth 10000
namespace Go.Proofs.AM
theorem eE7 {s : Str} (h : s.size ≤ 1048576) : gb7 s = some (bd7 s) := by
 unfold gb7 bd7
 rw [if_pos (aa7 h), iu7 (gl := fm7) (p := fun (b : UInt8) _ => decide (97 ≤ b.toNat) && decide (b.toNat ≤ 122)) (xs := s.data.toList) (fun _ => rfl) (fun x l k _ => ?_) s.data.toList 0 rfl]
 ·have e1 : ((s.size : Int) ≥ 1) ↔ 1 ≤ s.size := by omega
  have e2 : ((s.size : Int) ≤ 6) ↔ s.size ≤ 6 := by omega
  cases a07 (fun (b : UInt8) _ => decide (97 ≤ b.toNat) && decide (b.toNat ≤ 122)) s.data.toList 0
  ·rfl
  ·by_cases h1 : 1 ≤ s.size <;> simp [e1, e2, h1]
 ·have e1 : ((x.toNat : Int) < 97) ↔ ¬ 97 ≤ x.toNat := by omega
  have e2 : ((x.toNat : Int) > 122) ↔ ¬ x.toNat ≤ 122 := by omega
  simp only [fm7, e1, e2]
  by_cases h1 : 97 ≤ x.toNat <;> by_cases h2 : x.toNat ≤ 122 <;> simp [h1, h2]
theorem g37 {s : Str} (h : s.size ≤ 1048576) : hp7 s = some (bd7 s) := by
 unfold hp7 bd7
 rw [if_pos (aa7 h), iu7 (gl := fB7) (p := fun (b : UInt8) _ => decide (97 ≤ b.toNat) && decide (b.toNat ≤ 122)) (xs := s.data.toList) (fun _ => rfl) (fun x l k _ => ?_) s.data.toList 0 rfl]
 ·have e1 : ((s.size : Int) ≥ 1) ↔ 1 ≤ s.size := by omega
  have e2 : ((s.size : Int) ≤ 6) ↔ s.size ≤ 6 := by omega
  cases a07 (fun (b : UInt8) _ => decide (97 ≤ b.toNat) && decide (b.toNat ≤ 122)) s.data.toList 0
  ·rfl
  ·by_cases h1 : 1 ≤ s.size <;> simp [em7, e1, e2, h1]
 ·have e1 : ((x.toNat : Int) < 97) ↔ ¬ 97 ≤ x.toNat := by omega
  have e2 : ((x.toNat : Int) > 122) ↔ ¬ x.toNat ≤ 122 := by omega
  simp only [fB7, e1, e2]
  by_cases h1 : 97 ≤ x.toNat <;> by_cases h2 : x.toNat ≤ 122 <;> simp [h1, h2]
theorem Fn7 (n : Int) : nN7 n = some (lH7 n) := by
 unfold nN7 lH7
 by_cases h : -1000 ≤ n <;> simp [h]
theorem eF7 (n a b : Int) : em7 n a b = some (decide (a ≤ n) && decide (n ≤ b)) := by
 unfold em7
 by_cases h : a ≤ n <;> simp [h]
theorem Fo7 {xs : List Pt} (h : xs.length ≤ 1048576) : qL7 xs = some (D47 xs && decide (xs.length ≤ 6)) := by
 unfold qL7 D47
 rw [if_pos (aa7 h), iu7 (gl := ea7 xs) (p := fun p k => lH7 p.x && (lH7 p.y && (decide (k = 0) || decide (xs[k - 1]? ≠ some p)))) (xs := xs) (fun _ => rfl) (fun x l k hd => ?_) xs 0 rfl]
 ·rw [show decide ((xs.length : Int) ≤ 6) = decide (xs.length ≤ 6) from D27]
  exact MG7
 ·simp only [ea7, Fn7, Option.bind_some, ptb, D37]
  rcases Nat.eq_zero_or_pos k with rfl | hk
  ·cases lH7 x.x <;> cases lH7 x.y <;> simp
  ·obtain ⟨y, hy⟩ := eZ7 hd hk
   have hl := ch7 hd
   have hw := cd7 hk (by omega)
   rw [hw, ag7, hy]
   have hk' : ¬ k = 0 := by omega
   by_cases e : x = y
   ·subst e
    cases lH7 x.x <;> cases lH7 x.y <;> simp [hk, hk', hy]
   ·have e' : ¬ y = x := fun h => e h.symm
    cases lH7 x.x <;> cases lH7 x.y <;> simp [hk, hk', hy, e, e']
theorem iN7 {x : aL7} (h : x.pts.length ≤ 1048576) : j57 x = some (dt7 x) := by
 unfold j57 dt7
 rw [Fo7 h]
 simp only [Option.bind_some, ptb]
 have c1 : ((x.pts.length : Int) == 1) = decide (x.pts.length = 1) := by
  by_cases e : x.pts.length = 1 <;> simp [e] <;> omega
 have c2 : ((x.pts.length : Int) ≥ 2) ↔ 2 ≤ x.pts.length := by omega
 have c3 : ((x.pts.length : Int) ≥ 3) ↔ 3 ≤ x.pts.length := by omega
 cases D47 x.pts
 ·simp
 ·by_cases hl : x.pts.length ≤ 6
  ·by_cases k1 : x.kind = 1
   ·simp [k1, hl, c1]
   ·by_cases k2 : x.kind = 2
    ·simp [k2, hl, c2]
    ·by_cases k3 : x.kind = 3
     ·by_cases h3 : 3 ≤ x.pts.length
      ·obtain ⟨p, hp⟩ : ∃ p, x.pts[0]? = some p := ⟨x.pts[0], List.getElem?_eq_getElem (by omega)⟩
       obtain ⟨q, hq⟩ : ∃ p, x.pts[x.pts.length - 1]? = some p := ⟨x.pts[x.pts.length - 1], List.getElem?_eq_getElem (by omega)⟩
       have hw := cd7 (k := x.pts.length) (by omega) (by omega)
       have e0 : idx x.pts 0 = some p := by rw [← hp]; exact ag7 (k := 0)
       have e1 : idx x.pts ((x.pts.length - 1 : Nat) : Int) = some q := by rw [← hq]; exact ag7
       rw [hw]
       simp [k3, hl, c3, h3, e0, e1, hp, hq]
      ·simp [k3, hl, c3, h3]
     ·simp [k1, k2, k3, hl]
  ·simp [hl]
theorem Mk7 (p : Pt) : q67 p = some (lH7 p.x && lH7 p.y) := by
 unfold q67 lH7
 rw [eF7, eF7]
 simp only [Option.bind_some]
 cases (decide (-1000 ≤ p.x) && decide (p.x ≤ 1000)) <;> simp
theorem rV7 {x : aL7} (h : x.pts.length ≤ 1048576) : lT7 x = some (dt7 x) := by
 unfold lT7 dt7
 have c1 : ((x.pts.length : Int) == 1) = decide (x.pts.length = 1) := by
  by_cases e : x.pts.length = 1 <;> simp [e] <;> omega
 have c2 : ((2 : Int) ≤ (x.pts.length : Int)) ↔ 2 ≤ x.pts.length := by omega
 have c3 : ((3 : Int) ≤ (x.pts.length : Int)) ↔ 3 ≤ x.pts.length := by omega
 have c6 : ((x.pts.length : Int) ≤ 6) ↔ x.pts.length ≤ 6 := by omega
 rw [if_pos (aa7 h), iu7 (gl := en7 x) (p := fun p k => lH7 p.x && (lH7 p.y && (decide (k = 0) || decide (x.pts[k - 1]? ≠ some p)))) (xs := x.pts) (fun _ => rfl) (fun y l k hd => ?_) x.pts 0 rfl]
 ·show _ = some (D47 x.pts && _)
  have hm : a07 (fun (p : Pt) k => lH7 p.x && (lH7 p.y && (decide (k = 0) || decide (x.pts[k - 1]? ≠ some p)))) x.pts 0 = D47 x.pts := rfl
  rw [hm]
  cases D47 x.pts
  ·rfl
  ·simp only [if_true, Option.bind_some, ptb, eF7]
   by_cases k1 : x.kind = 1
   ·by_cases e : x.pts.length = 1 <;> simp [k1, c1, e]
   ·by_cases k2 : x.kind = 2
    ·by_cases e : x.pts.length ≤ 6 <;> simp [k2, c2, c6, e]
    ·by_cases k3 : x.kind = 3
     ·by_cases h3 : 3 ≤ x.pts.length
      ·obtain ⟨p, hp⟩ : ∃ p, x.pts[0]? = some p := ⟨x.pts[0], List.getElem?_eq_getElem (by omega)⟩
       obtain ⟨q, hq⟩ : ∃ p, x.pts[x.pts.length - 1]? = some p := ⟨x.pts[x.pts.length - 1], List.getElem?_eq_getElem (by omega)⟩
       have hw := cd7 (k := x.pts.length) (by omega) (by omega)
       have e0 : idx x.pts 0 = some p := by rw [← hp]; exact ag7 (k := 0)
       have e1 : idx x.pts ((x.pts.length - 1 : Nat) : Int) = some q := by rw [← hq]; exact ag7
       rw [hw]
       by_cases e : x.pts.length ≤ 6 <;> simp [k3, c3, c6, h3, e0, e1, hp, hq, e]
      ·simp [k3, c3, c6, h3]
     ·simp [k1, k2, k3]
 ·simp only [en7, Mk7, Option.bind_some, ptb, D37]
  rcases Nat.eq_zero_or_pos k with rfl | hk
  ·cases lH7 y.x <;> cases lH7 y.y <;> simp
  ·obtain ⟨z, hz⟩ := eZ7 hd hk
   have hl := ch7 hd
   have hw := cd7 hk (by omega)
   rw [hw, ag7, hz]
   have hk' : ¬ k = 0 := by omega
   by_cases e : z = y <;> cases lH7 y.x <;> cases lH7 y.y <;> simp [hk, hk', hz, e]
theorem A57 {ts : List Tag} (h : wL sO7 ts ≤ 1048576) : qN7 ts = some (qE7 ts && decide (ts.length ≤ 4)) := by
 have hlen : ts.length ≤ 1048576 := by unfold wL at h; omega
 unfold qN7 qE7
 rw [if_pos (aa7 hlen), iu7 (gl := eb7 ts) (p := fun t k => bd7 t.key && (bd7 t.val && (decide (k = 0) || ku7 Tag.key ts t k))) (xs := ts) (fun _ => rfl) (fun x l k hd => ?_) ts 0 rfl]
 ·rw [show decide ((ts.length : Int) ≤ 4) = decide (ts.length ≤ 4) from D27]
  exact MG7
 ·have hx : x ∈ ts := List.mem_of_getElem? (ct7 hd)
  have hs := bA7 (w := sO7) hx
  unfold wL at h
  have hk1 : x.key.size ≤ 1048576 := by have e0 : sO7 x = x.key.size + (x.val.size + 0) := rfl; omega
  have hk2 : x.val.size ≤ 1048576 := by have e0 : sO7 x = x.key.size + (x.val.size + 0) := rfl; omega
  simp only [eb7, eE7 hk1, eE7 hk2, Option.bind_some, D37, sP7]
  rcases Nat.eq_zero_or_pos k with rfl | hk
  ·cases bd7 x.key <;> cases bd7 x.val <;> simp
  ·obtain ⟨z, hz⟩ := eZ7 hd hk
   have hl := ch7 hd
   have hw := cd7 hk (by omega)
   rw [hw, ag7, hz]
   have hk' : ¬ k = 0 := by omega
   cases e : slt z.key x.key <;> cases bd7 x.key <;> cases bd7 x.val <;> simp [hk, hk', hz, e, ku7]
theorem uC7 {f : Feat} (h : aZ7 f ≤ 1048576) : lK7 f = some (bM7 f) := by
 unfold aZ7 hk7 at h
 have h1 : f.id.size ≤ 1048576 := by omega
 have h2 : f.shape.pts.length ≤ 1048576 := by unfold wL at h; omega
 unfold lK7 bM7
 rw [eE7 h1, iN7 h2, A57 (by omega)]
 simp only [Option.bind_some]
 cases bd7 f.id <;> cases dt7 f.shape <;> simp
theorem iO7 {f : Feat} (h : aZ7 f ≤ 1048576) : hq7 f = some (bM7 f) := by
 unfold aZ7 hk7 at h
 have h1 : f.id.size ≤ 1048576 := by omega
 have h2 : f.shape.pts.length ≤ 1048576 := by unfold wL at h; omega
 have h3 : wL sO7 f.tags ≤ 1048576 := by omega
 have hlen : f.tags.length ≤ 1048576 := by unfold wL at h3; omega
 unfold hq7 bM7
 rw [if_pos (aa7 hlen), iu7 (gl := eo7 f) (p := fun t k => bd7 t.key && (bd7 t.val && (decide (k = 0) || ku7 Tag.key f.tags t k))) (xs := f.tags) (fun _ => rfl) (fun x l k hd => ?_) f.tags 0 rfl]
 ·have hm : a07 (fun (t : Tag) k => bd7 t.key && (bd7 t.val && (decide (k = 0) || ku7 Tag.key f.tags t k))) f.tags 0 = qE7 f.tags := rfl
  rw [hm, g37 h1, rV7 h2]
  rw [show decide ((f.tags.length : Int) ≤ 4) = decide (f.tags.length ≤ 4) from D27]
  cases qE7 f.tags <;> cases bd7 f.id <;> cases dt7 f.shape <;> simp
 ·have hx : x ∈ f.tags := List.mem_of_getElem? (ct7 hd)
  have hs := bA7 (w := sO7) hx
  unfold wL at h3
  have hk1 : x.key.size ≤ 1048576 := by have e0 : sO7 x = x.key.size + (x.val.size + 0) := rfl; omega
  have hk2 : x.val.size ≤ 1048576 := by have e0 : sO7 x = x.key.size + (x.val.size + 0) := rfl; omega
  simp only [eo7, g37 hk1, g37 hk2, Option.bind_some, D37]
  rcases Nat.eq_zero_or_pos k with rfl | hk
  ·cases bd7 x.key <;> cases bd7 x.val <;> simp
  ·obtain ⟨z, hz⟩ := eZ7 hd hk
   have hl := ch7 hd
   have hw := cd7 hk (by omega)
   rw [hw, ag7, hz]
   have hk' : ¬ k = 0 := by omega
   cases e : slt z.key x.key <;> cases bd7 x.key <;> cases bd7 x.val <;> simp [hk, hk', hz, e, ku7]
theorem e67 {fs : List Feat} (h : wL aZ7 fs ≤ 1048576) : hl7 fs = some (a87 fs) := by
 have hlen : fs.length ≤ 1048576 := by unfold wL at h; omega
 unfold hl7 a87
 rw [if_pos (aa7 hlen), iu7 (gl := ec7 fs) (p := fun f k => bM7 f && (decide (k = 0) || ku7 Feat.id fs f k)) (xs := fs) (fun _ => rfl) (fun x l k hd => ?_) fs 0 rfl]
 ·rw [show decide ((fs.length : Int) ≤ 8) = decide (fs.length ≤ 8) from D27]
  exact MG7
 ·have hx : x ∈ fs := List.mem_of_getElem? (ct7 hd)
  have hs := bA7 (w := aZ7) hx
  unfold wL at h
  simp only [ec7, uC7 (f := x) (by omega), Option.bind_some, D37, sP7]
  rcases Nat.eq_zero_or_pos k with rfl | hk
  ·cases bM7 x <;> simp
  ·obtain ⟨z, hz⟩ := eZ7 hd hk
   have hl := ch7 hd
   have hw := cd7 hk (by omega)
   rw [hw, ag7, hz]
   have hk' : ¬ k = 0 := by omega
   cases e : slt z.id x.id <;> cases bM7 x <;> simp [hk, hk', hz, e, ku7]
theorem gH7 {fs : List Feat} (h : wL aZ7 fs ≤ 1048576) : iy7 fs = some (a87 fs) := by
 have hlen : fs.length ≤ 1048576 := by unfold wL at h; omega
 unfold iy7 a87
 rw [if_pos (aa7 hlen), iu7 (gl := ep7 fs) (p := fun f k => bM7 f && (decide (k = 0) || ku7 Feat.id fs f k)) (xs := fs) (fun _ => rfl) (fun x l k hd => ?_) fs 0 rfl]
 ·rw [show decide ((fs.length : Int) ≤ 8) = decide (fs.length ≤ 8) from D27]
  exact MG7
 ·have hx : x ∈ fs := List.mem_of_getElem? (ct7 hd)
  have hs := bA7 (w := aZ7) hx
  unfold wL at h
  simp only [ep7, iO7 (f := x) (by omega), Option.bind_some, D37, sP7]
  rcases Nat.eq_zero_or_pos k with rfl | hk
  ·cases bM7 x <;> simp
  ·obtain ⟨z, hz⟩ := eZ7 hd hk
   have hl := ch7 hd
   have hw := cd7 hk (by omega)
   rw [hw, ag7, hz]
   have hk' : ¬ k = 0 := by omega
   cases e : slt z.id x.id <;> cases bM7 x <;> simp [hk, hk', hz, e, ku7]
theorem kV7 {a b : List Pt} (h : a.length ≤ 1048576) : lL7 a b = some (decide (a = b)) := cN7 (gl := fn7) (ok := fun _ => True) (fun _ _ => rfl) (fun a x l k y _ hy => by
 simp only [fn7, ag7, hy, Option.bind_some, ptb]
 by_cases e : x = y <;> simp [e]) (fun _ _ => rfl) h (fun _ _ => trivial)
theorem uD7 {a b : List Pt} (h : a.length ≤ 1048576) : e37 a b = some (decide (a = b)) := cN7 (gl := fC7) (ok := fun _ => True) (fun _ _ => rfl) (fun a x l k y _ hy => by
 simp only [fC7, ag7, hy, Option.bind_some, ptb]
 by_cases e : x = y <;> simp [e]) (fun _ _ => rfl) h (fun _ _ => trivial)
theorem A67 {a b : List Tag} (h : a.length ≤ 1048576) : ue7 a b = some (decide (a = b)) := cN7 (gl := fo7) (ok := fun _ => True) (fun _ _ => rfl) (fun a x l k y _ hy => by
 simp only [fo7, ag7, hy, Option.bind_some, QW7]
 by_cases e : x = y <;> simp [e]) (fun _ _ => rfl) h (fun _ _ => trivial)
theorem Fp7 {a b : List Tag} (h : a.length ≤ 1048576) : uj7 a b = some (decide (a = b)) := cN7 (gl := fD7) (ok := fun _ => True) (fun _ _ => rfl) (fun a x l k y _ hy => by
 simp only [fD7, ag7, hy, Option.bind_some, QW7]
 by_cases e : x = y <;> simp [e]) (fun _ _ => rfl) h (fun _ _ => trivial)
theorem A77 {a b : List Int} (h : a.length ≤ 1048576) : uf7 a b = some (decide (a = b)) := cN7 (gl := fp7) (ok := fun _ => True) (fun _ _ => rfl) (fun a x l k y _ hy => by
 simp only [fp7, ag7, hy, Option.bind_some]
 by_cases e : x = y <;> simp [e]) (fun _ _ => rfl) h (fun _ _ => trivial)
theorem Fq7 {a b : List Int} (h : a.length ≤ 1048576) : ul7 a b = some (decide (a = b)) := cN7 (gl := fF7) (ok := fun _ => True) (fun _ _ => rfl) (fun a x l k y _ hy => by
 simp only [fF7, ag7, hy, Option.bind_some]
 by_cases e : x = y <;> simp [e]) (fun _ _ => rfl) h (fun _ _ => trivial)
theorem fZ7 {a b : aL7} (h : a.pts.length ≤ 1048576) : j67 a b = some (decide (a = b)) := by
 unfold j67
 rw [kV7 h]
 obtain ⟨k, p⟩ := a; obtain ⟨k2, p2⟩ := b
 by_cases h1 : k = k2 <;> by_cases h2 : p = p2 <;> simp [h1, h2]
theorem g47 {a b : Feat} (h : aZ7 a ≤ 1048576) : gc7 a b = some (decide (a = b)) := by
 unfold aZ7 hk7 wL at h
 unfold gc7
 rw [fZ7 (by omega), A67 (by omega), bT7]
 obtain ⟨i, s, t⟩ := a; obtain ⟨i2, s2, t2⟩ := b
 by_cases h1 : i = i2 <;> by_cases h2 : s = s2 <;> by_cases h3 : t = t2 <;> simp [h1, h2, h3]
theorem f07 {a b : aL7} (h : a.pts.length ≤ 1048576) : kb7 a b = some (decide (a = b)) := by
 unfold kb7
 rw [uD7 h]
 obtain ⟨k, p⟩ := a; obtain ⟨k2, p2⟩ := b
 by_cases h1 : k = k2 <;> by_cases h2 : p = p2 <;> simp [h1, h2]
theorem og7 {a b : Feat} (h : aZ7 a ≤ 1048576) : nV7 a b = some (decide (a = b)) := by
 unfold aZ7 hk7 wL at h
 unfold nV7
 rw [f07 (by omega), Fp7 (by omega), bT7]
 obtain ⟨i, s, t⟩ := a; obtain ⟨i2, s2, t2⟩ := b
 by_cases h1 : i = i2 <;> by_cases h2 : s = s2 <;> by_cases h3 : t = t2 <;> simp [h1, h2, h3]
theorem s87 {a b : List Feat} (h : wL aZ7 a ≤ 1048576) : ug7 a b = some (decide (a = b)) := cN7 (gl := fq7) (ok := fun x => aZ7 x ≤ 1048576) (fun _ _ => rfl) (fun a x l k y hx hy => by
 simp only [fq7, ag7, hy, Option.bind_some, g47 hx]
 by_cases e : x = y <;> simp [e]) (fun _ _ => rfl) (by unfold wL at h; omega) (fun x hx => by have := bA7 (w := aZ7) hx; unfold wL at h; omega)
theorem A87 {a b : List Feat} (h : wL aZ7 a ≤ 1048576) : uk7 a b = some (decide (a = b)) := cN7 (gl := fE7) (ok := fun x => aZ7 x ≤ 1048576) (fun _ _ => rfl) (fun a x l k y hx hy => by
 simp only [fE7, ag7, hy, Option.bind_some, og7 hx]
 by_cases e : x = y <;> simp [e]) (fun _ _ => rfl) (by unfold wL at h; omega) (fun x hx => by have := bA7 (w := aZ7) hx; unfold wL at h; omega)
theorem mf7 {a b : List Feat} (h : wL aZ7 a ≤ 1048576) : nW7 a b = some (decide (a = b)) := by
 unfold nW7
 rw [A87 h]
 rfl
theorem rW7 {a b : Commit} (h : aA7 a ≤ 1048576) : qO7 a b = some (decide (a = b)) := by
 unfold aA7 at h
 unfold qO7
 rw [A77 (by unfold wL at h; omega), s87 (by omega), bT7]
 obtain ⟨i, s, t⟩ := a; obtain ⟨i2, s2, t2⟩ := b
 by_cases h1 : i = i2 <;> by_cases h2 : s = s2 <;> by_cases h3 : t = t2 <;> simp [h1, h2, h3]
theorem kn7 {a b : Commit} (h : aA7 a ≤ 1048576) : nX7 a b = some (decide (a = b)) := by
 unfold aA7 at h
 unfold nX7
 rw [Fq7 (by unfold wL at h; omega), mf7 (by omega), bT7]
 obtain ⟨i, s, t⟩ := a; obtain ⟨i2, s2, t2⟩ := b
 by_cases h1 : i = i2 <;> by_cases h2 : s = s2 <;> by_cases h3 : t = t2 <;> simp [h1, h2, h3]
theorem kW7 {r : am7} {c : Commit} (h : wL aA7 r.commits ≤ 1048576) : lN7 r c = some (cl7 r.commits c) := by
 unfold lN7 cl7
 rw [if_pos (aa7 (by unfold wL at h; omega))]
 exact mX7 (gl := fs7 c) (ok := fun x => aA7 x ≤ 1048576) (fun _ => rfl) (fun x l k hx => by simp only [fs7, rW7 hx, Option.bind_some]) _ 0 fun x hx => by have := bA7 (w := aA7) hx; unfold wL at h; omega
theorem iP7 {r : am7} {c : Commit} (h : wL aA7 r.commits ≤ 1048576) : nY7 r c = some (cl7 r.commits c) := by
 have key : q87 r.commits c = some (cl7 r.commits c) := by
  unfold q87 cl7
  rw [if_pos (aa7 (by unfold wL at h; omega))]
  exact mX7 (gl := fH7 c) (ok := fun x => aA7 x ≤ 1048576) (fun _ => rfl) (fun x l k hx => by simp only [fH7, um7, kn7 hx, Option.bind_some]) _ 0 fun x hx => by have := bA7 (w := aA7) hx; unfold wL at h; omega
 unfold nY7
 rw [key]
 rfl
theorem g57 {r : am7} {n : Str} (h : r.heads.length ≤ 1048576) : hn7 r n = some (be7 r.heads n) := by
 unfold hn7 be7
 rw [if_pos (aa7 h)]
 exact mX7 (gl := ft7 n) (ok := fun _ => True) (fun _ => rfl) (fun x l k _ => by simp only [ft7, bT7]) _ 0 fun _ _ => trivial
theorem f17 {r : am7} {n : Str} (h : r.heads.length ≤ 1048576) : kc7 r n = some (be7 r.heads n) := by
 have key : ra7 r.heads n = some (be7 r.heads n) := by
  unfold ra7 be7
  rw [if_pos (aa7 h)]
  exact mX7 (gl := fI7 n) (ok := fun _ => True) (fun _ => rfl) (fun x l k _ => by simp only [fI7, un7, bT7, Option.bind_some]) _ 0 fun _ _ => trivial
 unfold kc7
 rw [key]
 rfl
theorem Ml7 {up : List Int} {k : Nat} (h : up.length ≤ 1048576) : qP7 up (k : Int) = some (mUp up k) := by
 unfold qP7 mUp
 rw [if_pos (aa7 h), iu7 (gl := fr7 (k : Int)) (p := fun (x : Int) _ => decide (0 ≤ x) && decide (x < (k : Int))) (xs := up) (fun _ => rfl) (fun x l j _ => ?_) up 0 rfl]
 ·generalize a07 (fun (x : Int) _ => decide (0 ≤ x) && decide (x < (k : Int))) up 0 = A
  cases A
  ·rfl
  ·have e1 : decide ((k : Int) > 0) = decide (0 < k) := D37
   match up with
   | [] => cases e : decide (0 < k) <;> simp [e1, e]
   | [a] => cases e : decide (0 < k) <;> simp [e1, e]
   | [a, b] =>
    have i0 : idx [a, b] 0 = some a := rfl
    have i1 : idx [a, b] 1 = some b := rfl
    by_cases e2 : a = b
    ·subst e2
     cases e : decide (0 < k) <;> simp [e1, e, i0, i1]
    ·cases e : decide (0 < k) <;> simp [e1, e, i0, i1, e2]
   | a :: b :: c :: l =>
    have e2 : ¬ ((l.length : Int) + 1 + 1 + 1 ≤ 2) := by omega
    simp [e2]
 ·have e1 : (x ≥ (k : Int)) ↔ ¬ x < (k : Int) := by omega
  have e2 : (x < 0) ↔ ¬ 0 ≤ x := by omega
  simp only [fr7, e1, e2]
  by_cases h1 : 0 ≤ x <;> by_cases h2 : x < (k : Int) <;> simp [h1, h2]
theorem pq7 {r : am7} (h : ba7 r ≤ 1048576) : lP7 r = some (bk7 r) := by
 unfold ba7 at h
 have hc : wL aA7 r.commits ≤ 1048576 := by omega
 have hh : wL hS7 r.heads ≤ 1048576 := by omega
 have hcl : r.commits.length ≤ 1048576 := by unfold wL at hc; omega
 have hhl : r.heads.length ≤ 1048576 := by unfold wL at hh; omega
 have c1 : ((r.commits.length : Int) < 1) ↔ ¬ 1 ≤ r.commits.length := by omega
 have c2 : ((r.commits.length : Int) > 14) ↔ ¬ r.commits.length ≤ 14 := by omega
 have c3 : ((r.heads.length : Int) < 1) ↔ ¬ 1 ≤ r.heads.length := by omega
 have c4 : ((r.heads.length : Int) > 4) ↔ ¬ r.heads.length ≤ 4 := by omega
 have k1 : ed7 r r.commits 0 = some (if cO7 r.commits = true then .inr () else .inl false) := by
  refine iu7 (gl := ed7 r) (p := fun c k => mUp c.up k && (a87 c.sheet && (bd7 c.note && decide (cl7 r.commits c = (k : Int))))) (xs := r.commits) (fun _ => rfl) (fun x l k hd => ?_) r.commits 0 rfl
  have hx : x ∈ r.commits := List.mem_of_getElem? (ct7 hd)
  have hs := bA7 (w := aA7) hx
  have e0 : aA7 x = wL w0 x.up + (wL aZ7 x.sheet + (x.note.size + 0)) := rfl
  have hs' : aA7 x ≤ 1048576 := by unfold wL at hc; omega
  have hu : x.up.length ≤ 1048576 := by have : wL w0 x.up = x.up.length + h37 w0 x.up := rfl; omega
  simp only [ed7, Ml7 hu, e67 (fs := x.sheet) (by omega), eE7 (s := x.note) (by omega), kW7 hc, Option.bind_some]
  by_cases e : cl7 r.commits x = (k : Int) <;> cases mUp x.up k <;> cases a87 x.sheet <;> cases bd7 x.note <;> simp [e]
 have k2 : ee7 r r.heads 0 = some (if nL7 r.commits.length r.heads = true then .inr () else .inl false) := by
  refine iu7 (gl := ee7 r) (p := fun h k => bd7 h.name && (decide (be7 r.heads h.name = (k : Int)) && (decide (0 ≤ h.at_) && decide (h.at_ < (r.commits.length : Int))))) (xs := r.heads) (fun _ => rfl) (fun x l k hd => ?_) r.heads 0 rfl
  have hx : x ∈ r.heads := List.mem_of_getElem? (ct7 hd)
  have hs := bA7 (w := hS7) hx
  have e0 : hS7 x = x.name.size + 0 := rfl
  have hs' : x.name.size ≤ 1048576 := by unfold wL at hh; omega
  have d1 : (x.at_ < 0) ↔ ¬ 0 ≤ x.at_ := by omega
  have d2 : (x.at_ ≥ (r.commits.length : Int)) ↔ ¬ x.at_ < (r.commits.length : Int) := by omega
  simp only [ee7, eE7 hs', g57 hhl, Option.bind_some, d1, d2]
  by_cases e : be7 r.heads x.name = (k : Int) <;> by_cases e1 : 0 ≤ x.at_ <;> by_cases e2 : x.at_ < (r.commits.length : Int) <;> cases bd7 x.name <;> simp [e, e1, e2]
 unfold lP7 bk7
 rw [k1, k2, if_pos (aa7 hcl), if_pos (aa7 hhl)]
 simp only [c1, c2, c3, c4]
 by_cases h1 : 1 ≤ r.commits.length <;> by_cases h2 : r.commits.length ≤ 14 <;> by_cases h3 : 1 ≤ r.heads.length <;> by_cases h4 : r.heads.length ≤ 4 <;> cases cO7 r.commits <;> cases nL7 r.commits.length r.heads <;> simp [h1, h2, h3, h4]
theorem gI7 {r : am7} {k : Int} (h : r.commits.length ≤ 1048576) : iz7 r k = some (decide (0 ≤ k) && decide (k < (r.commits.length : Int))) := by
 unfold iz7
 rw [aN7 (by omega) (by omega), eF7]
 have e : (k ≤ (r.commits.length : Int) - 1) ↔ k < (r.commits.length : Int) := by omega
 simp [e]
theorem mg7 (x : Int) : lU7 [] x = some false := rfl
theorem s97 (a x : Int) : lU7 [a] x = some (decide (x = a)) := by
 have hf : aH7 1 = true := aa7 (by omega)
 by_cases e : x = a
 ·subst e
  simp [lU7, q77, hf, fG7]
 ·simp [lU7, q77, hf, fG7, e]
theorem Qj7 {c : Commit} {k : Nat} (hk : k ≤ 1048576) (h : c.up.length ≤ 2) : eq7 k c c.up 0 = some (if (a07 (fun (x : Int) _ => decide (0 ≤ x) && decide (x < (k : Int))) c.up 0 && decide (c.up[0]? = none ∨ c.up[0]? ≠ c.up[1]?)) = true then .inr () else .inl false) := by
 have hw : IntKind.i64.wrap ((k : Int) - 1) = (k : Int) - 1 := aN7 (by omega) (by omega)
 have hi : ∀ x : Int, (x ≤ (k : Int) - 1) ↔ x < (k : Int) := fun x => by omega
 obtain ⟨up, sh, nt⟩ := c
 match up, h with
 | [], _ => rfl
 | [a], _ =>
  have s0 : slc [a] 0 ((0 : Nat) : Int) = some [] := by simp [slc]
  simp only [eq7, eF7, hw, hi, Option.bind_some, s0, mg7, a07]
  by_cases h1 : 0 ≤ a <;> by_cases h2 : a < (k : Int) <;> simp [h1, h2]
 | [a, b], _ =>
  have s0 : slc [a, b] 0 ((0 : Nat) : Int) = some [] := by simp [slc]
  have s1 : slc [a, b] 0 ((0 + 1 : Nat) : Int) = some [a] := by simp [slc]
  simp only [eq7, eF7, hw, hi, Option.bind_some, s0, s1, mg7, s97, a07]
  by_cases e : b = a
  ·subst e
   by_cases h1 : 0 ≤ b <;> by_cases h2 : b < (k : Int) <;> simp [h1, h2]
  ·have e' : ¬ a = b := fun h => e h.symm
   by_cases h1 : 0 ≤ a <;> by_cases h2 : a < (k : Int) <;> by_cases h3 : 0 ≤ b <;> by_cases h4 : b < (k : Int) <;> simp [h1, h2, h3, h4, e, e']
 | _ :: _ :: _ :: _, h => simp at h
theorem iQ7 {r : am7} (h : ba7 r ≤ 1048576) : iA7 r = some (bk7 r) := by
 unfold ba7 at h
 have hc : wL aA7 r.commits ≤ 1048576 := by omega
 have hh : wL hS7 r.heads ≤ 1048576 := by omega
 have hcl : r.commits.length ≤ 1048576 := by unfold wL at hc; omega
 have hhl : r.heads.length ≤ 1048576 := by unfold wL at hh; omega
 have c1 : ((1 : Int) ≤ r.commits.length) ↔ 1 ≤ r.commits.length := by omega
 have c2 : ((r.commits.length : Int) ≤ 14) ↔ r.commits.length ≤ 14 := by omega
 have c3 : ((1 : Int) ≤ r.heads.length) ↔ 1 ≤ r.heads.length := by omega
 have c4 : ((r.heads.length : Int) ≤ 4) ↔ r.heads.length ≤ 4 := by omega
 have k1 : er7 r r.commits 0 = some (if cO7 r.commits = true then .inr () else .inl false) := by
  refine iu7 (gl := er7 r) (p := fun c k => mUp c.up k && (a87 c.sheet && (bd7 c.note && decide (cl7 r.commits c = (k : Int))))) (xs := r.commits) (fun _ => rfl) (fun x l k hd => ?_) r.commits 0 rfl
  have hx : x ∈ r.commits := List.mem_of_getElem? (ct7 hd)
  have hkl := ch7 hd
  have hs := bA7 (w := aA7) hx
  have e0 : aA7 x = wL w0 x.up + (wL aZ7 x.sheet + (x.note.size + 0)) := rfl
  have hs' : aA7 x ≤ 1048576 := by unfold wL at hc; omega
  have hu : x.up.length ≤ 1048576 := by have : wL w0 x.up = x.up.length + h37 w0 x.up := rfl; omega
  have d1 : (((k : Int) == 0) == ((x.up.length : Int) == 0)) = (decide (0 < x.up.length) == decide (0 < k)) := by
   rw [zI, zI, Q57, Q57]
   cases decide (k = 0) <;> cases decide (x.up.length = 0) <;> rfl
  have d2 : ((x.up.length : Int) > 2) ↔ ¬ x.up.length ≤ 2 := by omega
  obtain ⟨B, hB⟩ : ∃ B, (decide (0 < x.up.length) == decide (0 < k)) = B := ⟨_, rfl⟩
  rw [hB] at d1
  simp only [er7, gH7 (fs := x.sheet) (by omega), g37 (s := x.note) (by omega), iP7 hc, Option.bind_some, d1, d2, mUp, hB]
  clear d1 hB
  by_cases b : x.up.length ≤ 2
  ·rw [Qj7 (by omega) b, if_pos (aa7 hu)]
   obtain ⟨D, hD⟩ : ∃ D, (decide (x.up[0]? = none ∨ x.up[0]? ≠ x.up[1]?)) = D := ⟨_, rfl⟩
   rw [hD]
   clear hD
   by_cases e : cl7 r.commits x = (k : Int) <;> cases B <;> cases a87 x.sheet <;> cases bd7 x.note <;> cases a07 (fun (x : Int) _ => decide (0 ≤ x) && decide (x < (k : Int))) x.up 0 <;> cases D <;> simp [e, b]
  ·by_cases e : cl7 r.commits x = (k : Int) <;> cases B <;> cases a87 x.sheet <;> cases bd7 x.note <;> simp [e, b]
 have k2 : es7 r r.heads 0 = some (if nL7 r.commits.length r.heads = true then .inr () else .inl false) := by
  refine iu7 (gl := es7 r) (p := fun h k => bd7 h.name && (decide (be7 r.heads h.name = (k : Int)) && (decide (0 ≤ h.at_) && decide (h.at_ < (r.commits.length : Int))))) (xs := r.heads) (fun _ => rfl) (fun x l k hd => ?_) r.heads 0 rfl
  have hx : x ∈ r.heads := List.mem_of_getElem? (ct7 hd)
  have hs := bA7 (w := hS7) hx
  have e0 : hS7 x = x.name.size + 0 := rfl
  have hs' : x.name.size ≤ 1048576 := by unfold wL at hh; omega
  simp only [es7, g37 hs', f17 hhl, gI7 hcl, Option.bind_some]
  by_cases e : be7 r.heads x.name = (k : Int) <;> by_cases e1 : 0 ≤ x.at_ <;> by_cases e2 : x.at_ < (r.commits.length : Int) <;> cases bd7 x.name <;> simp [e, e1, e2]
 unfold iA7 bk7
 rw [k1, k2, if_pos (aa7 hcl), if_pos (aa7 hhl), eF7, eF7]
 simp only [c1, c2, c3, c4, Option.bind_some]
 by_cases h1 : 1 ≤ r.commits.length <;> by_cases h2 : r.commits.length ≤ 14 <;> by_cases h3 : 1 ≤ r.heads.length <;> by_cases h4 : r.heads.length ≤ 4 <;> cases cO7 r.commits <;> cases nL7 r.commits.length r.heads <;> simp [h1, h2, h3, h4]
theorem uE7 {r : am7} {k : Int} (h : ba7 r ≤ 1048576) : j87 r k = some (bk7 r && (decide (0 ≤ k) && decide (k < (r.commits.length : Int)))) := by
 unfold j87
 rw [pq7 h]
 by_cases h1 : 0 ≤ k <;> cases bk7 r <;> simp [h1]
theorem yC7 {n j : Nat} : (List.replicate n false)[j]? ≠ some true := by
 rw [List.getElem?_replicate]
 split <;> simp
theorem oh7 {cs : List Commit} {F : List Nat} (hF : ∀ f ∈ F, f < cs.length) : Marks cs F cs.length (dZ7 (List.replicate cs.length false) (F.map fun (f : Nat) => (f : Int))) where
 len := by rw [jE7, List.length_replicate]
 snd := fun j hj => by
  rcases cG7.1 hj with hj | ⟨_, u, hu, rfl⟩
  ·exact absurd hj yC7
  ·obtain ⟨f, hf, rfl⟩ := List.mem_map.1 hu
   exact ⟨f, hf, .refl f⟩
 frm := fun f hf => cG7.2 (.inr ⟨by rw [List.length_replicate]; exact hF f hf, f, List.mem_map.2 ⟨f, hf, rfl⟩, rfl⟩)
 cl := fun j x u hj hb hx hu => by
  have := eD7 hx
  omega
theorem mh7 : ∀ (l : List Int) (k : Nat) (m : List Bool), (∀ u ∈ l, 0 ≤ u ∧ u < (m.length : Int)) → fu7 l k m = some (dZ7 m l)
 | [], k, m, h => rfl
 | u :: l, k, m, h => by
  have hu := h u (by simp)
  obtain ⟨b, hb⟩ := gp7 (xs := m) (i := u.toNat) (by omega)
  simp only [fu7, cn7 hu.1, hb, Option.bind_some]
  exact mh7 l (k + 1) _ fun v hv => by
   rw [List.length_set]
   exact h v (by simp [hv])
theorem mi7 {r : am7} {v : Nat} {x : Commit} (hx : r.commits[v]? = some x) (hu : ∀ u ∈ x.up, 0 ≤ u ∧ u < (v : Int)) (h2 : x.up.length ≤ 2) : ∀ (l : List Int) (j n : Nat) (m : List Bool), x.up.drop j = l → l.length < n → m[v]? = some true → dj7 r (v : Int) n (j : Int) m = some (dZ7 m l)
 | _, _, 0, _, _, h, _ => by omega
 | [], j, n + 1, m, h, hn, hm => by
  simp only [dj7, ag7, hx, Option.bind_some, sJ7 h]
  rfl
 | u :: l, j, n + 1, m, h, hn, hm => by
  have hue := ct7 h
  have hul := hu u (List.mem_of_getElem? hue)
  have hvl := eD7 hm
  obtain ⟨b, hb⟩ := gp7 (xs := m) (i := u.toNat) (by omega)
  have hjl := ch7 h
  have hw : IntKind.i64.wrap ((j : Int) + 1) = ((j + 1 : Nat) : Int) := by rw [aN7 (by omega) (by omega)]; omega
  simp only [dj7, ag7, hx, Option.bind_some, sK7 h, hm, hue, cn7 hul.1, hb, if_true, hw]
  exact mi7 hx hu h2 l (j + 1) n _ (iq7 h) (by simp at hn; omega) (by rw [List.getElem?_set_ne (by omega)]; exact hm)
theorem rX7 {r : am7} {v n : Nat} {x : Commit} {m : List Bool} (hx : r.commits[v]? = some x) (hm : m[v]? = some false) : dj7 r (v : Int) (n + 1) 0 m = some m := by
 simp only [dj7, ag7, hx, Option.bind_some, hm]
 split
 ·rfl
 ·rfl
theorem hU7 {r : am7} {F : List Nat} (hc : pG7 r.commits) : ∀ (k n : Nat) (m : List Bool), k < n → k ≤ r.commits.length → k ≤ 1048576 → Marks r.commits F k m → fv7 r n ((k : Int) - 1) m = some (kU7 r.commits F)
 | _, 0, _, h, _, _, _ => by omega
 | 0, n + 1, m, _, _, _, h => by
  rw [h.fin]
  rfl
 | k + 1, n + 1, m, hn, hk, hb, h => by
  obtain ⟨x, hx⟩ := gp7 (xs := r.commits) (i := k) (by omega)
  obtain ⟨b, hb2⟩ := gp7 (xs := m) (i := k) (by rw [h.len]; omega)
  have e1 : (((k + 1 : Nat) : Int) - 1) = (k : Int) := by omega
  have hw : IntKind.i64.wrap ((k : Int) - 1) = (k : Int) - 1 := aN7 (by omega) (by omega)
  have hge : decide ((k : Int) ≥ 0) = true := decide_eq_true (by omega)
  have hr : aT7 = 4194303 + 1 := rfl
  rw [e1]
  simp only [fv7, hge, if_true, hw]
  cases b
  ·rw [hr, rX7 hx hb2]
   exact hU7 hc k n m (by omega) (by omega) (by omega) (h.skip (by rw [hb2]; simp))
  ·have h2 := hc.two x (List.mem_of_getElem? hx)
   have := mi7 hx (hc.lt k x hx) h2 x.up 0 aT7 m rfl (by rw [hr]; omega) hb2
   simp only [Int.ofNat_zero, Int.natCast_zero] at this
   rw [this]
   exact hU7 hc k n _ (by omega) (by omega) (by omega) (h.step hc hb2 hx)
theorem yD7 {r : am7} {F : List Nat} (hc : pG7 r.commits) (hl : r.commits.length ≤ 1048576) (hF : ∀ f ∈ F, f < r.commits.length) (hFl : F.length ≤ 1048576) : j97 r (F.map fun (f : Nat) => (f : Int)) = some (kU7 r.commits F) := by
 have hr : aT7 = 4194303 + 1 := rfl
 unfold j97
 rw [if_pos (by simp [aa7 hl]), if_pos (aa7 (by simpa using hFl)), Int.toNat_natCast, mh7 _ _ _ (fun u hu => by
  obtain ⟨f, hf, rfl⟩ := List.mem_map.1 hu
  have := hF f hf
  rw [List.length_replicate]
  omega), aN7 (by omega) (by omega)]
 simp only [Option.bind_some]
 rw [hU7 hc r.commits.length aT7 _ (by rw [hr]; omega) (Nat.le_refl _) hl (oh7 hF)]
 rfl
theorem jG7 {r : am7} {k : Nat} (hc : pG7 r.commits) (hl : r.commits.length ≤ 1048576) (hk : k < r.commits.length) : j97 r [(k : Int)] = some (kU7 r.commits [k]) := by
 have := yD7 (r := r) (F := [k]) hc hl (by simpa using hk) (by simp)
 simpa using this
theorem uF7 : ∀ (l : List Int) (k : Nat) (m : List Bool), (∀ u ∈ l, 0 ≤ u ∧ u < (m.length : Int)) → fJ7 l k m = some (dZ7 m l)
 | [], k, m, h => rfl
 | u :: l, k, m, h => by
  have hu := h u (by simp)
  obtain ⟨b, hb⟩ := gp7 (xs := m) (i := u.toNat) (by omega)
  simp only [fJ7, cn7 hu.1, hb, Option.bind_some]
  exact uF7 l (k + 1) _ fun v hv => by
   rw [List.length_set]
   exact h v (by simp [hv])
theorem pr7 {r : am7} {F : List Nat} (hc : pG7 r.commits) : ∀ (k n : Nat) (m : List Bool), k < n → k ≤ r.commits.length → k ≤ 1048576 → Marks r.commits F k m → et7 r n ((k : Int) - 1) m = some (kU7 r.commits F)
 | _, 0, _, h, _, _, _ => by omega
 | 0, n + 1, m, _, _, _, h => by
  rw [h.fin]
  rfl
 | k + 1, n + 1, m, hn, hk, hb, h => by
  obtain ⟨x, hx⟩ := gp7 (xs := r.commits) (i := k) (by omega)
  obtain ⟨b, hb2⟩ := gp7 (xs := m) (i := k) (by rw [h.len]; omega)
  have e1 : (((k + 1 : Nat) : Int) - 1) = (k : Int) := by omega
  have hw : IntKind.i64.wrap ((k : Int) - 1) = (k : Int) - 1 := aN7 (by omega) (by omega)
  have hge : decide ((k : Int) ≥ 0) = true := decide_eq_true (by omega)
  rw [e1]
  simp only [et7, hge, if_true, hw, ag7, hb2, Option.bind_some]
  cases b
  ·exact pr7 hc k n m (by omega) (by omega) (by omega) (h.skip (by rw [hb2]; simp))
  ·have h2 := hc.two x (List.mem_of_getElem? hx)
   simp only [hx, if_true, Option.bind_some]
   rw [if_pos (aa7 (by omega)), uF7 x.up 0 m (fun u hu => by
    have := hc.lt k x hx u hu
    rw [h.len]
    omega)]
   exact pr7 hc k n _ (by omega) (by omega) (by omega) (h.step hc hb2 hx)
theorem oi7 {r : am7} {k : Nat} (hc : pG7 r.commits) (hl : r.commits.length ≤ 1048576) (hk : k < r.commits.length) : hr7 r (k : Int) = some (kU7 r.commits [k]) := by
 have hr : aT7 = 4194303 + 1 := rfl
 have h0 : (List.replicate r.commits.length false)[k]? = some false := by rw [List.getElem?_replicate, if_pos hk]
 have hm : Marks r.commits [k] (k + 1) ((List.replicate r.commits.length false).set k true) := by
  have := oh7 (cs := r.commits) (F := [k]) (by simpa using hk)
  exact s77 hc (by simpa [dZ7] using this) (by simp) (by omega)
 have e1 : (((k + 1 : Nat) : Int) - 1) = (k : Int) := by omega
 have := pr7 hc (k + 1) aT7 _ (by rw [hr]; omega) (by omega) (by omega) hm
 rw [e1] at this
 unfold hr7
 rw [if_pos (by simp [aa7 hl])]
 simp only [Int.toNat_natCast, ag7, h0, Option.bind_some, this]
theorem iR7 {r : am7} {v : Nat} {x : Commit} (hx : r.commits[v]? = some x) (h2 : x.up.length ≤ 2) : ∀ (l : List Int) (j n : Nat) (m : List Bool), x.up.drop j = l → l.length < n → (∀ u ∈ l, 0 ≤ u ∧ u < (m.length : Int)) → dC7 r (v : Int) n (j : Int) m = some (dZ7 m l)
 | _, _, 0, _, _, h, _ => by omega
 | [], j, n + 1, m, h, hn, hm => by
  simp only [dC7, ag7, hx, Option.bind_some, sJ7 h]
  rfl
 | u :: l, j, n + 1, m, h, hn, hm => by
  have hue := ct7 h
  have hul := hm u (by simp)
  obtain ⟨b, hb⟩ := gp7 (xs := m) (i := u.toNat) (by omega)
  have hjl := ch7 h
  have hw : IntKind.i64.wrap ((j : Int) + 1) = ((j + 1 : Nat) : Int) := by rw [aN7 (by omega) (by omega)]; omega
  simp only [dC7, ag7, hx, Option.bind_some, sK7 h, hue, cn7 hul.1, hb, if_true, hw]
  exact iR7 hx h2 l (j + 1) n _ (iq7 h) (by simp at hn; omega) (fun v hv => by rw [List.length_set]; exact hm v (by simp [hv]))
open Classical in
theorem f27 {r : am7} {a b : Nat} (hc : pG7 r.commits) : ∀ (k n : Nat) (out : List Int) (d : List Bool), k < n → k ≤ r.commits.length → k ≤ 1048576 → out.length + k ≤ 1048576 → d.length = r.commits.length → (∀ j, j < k → (d[j]? = some true ↔ ∃ c x u, k ≤ c ∧ Com r.commits a b c ∧ r.commits[c]? = some x ∧ u ∈ x.up ∧ j = u.toNat)) → cQ7 (kU7 r.commits [a]) (kU7 r.commits [b]) r n ((k : Int) - 1) out d = some (out ++ gq7 (fun k => decide (mH7 r.commits a b k)) k)
 | _, 0, _, _, h, _, _, _, _, _ => by omega
 | 0, n + 1, out, d, _, _, _, _, _, _ => by
  simp only [gq7, List.append_nil]
  rfl
 | k + 1, n + 1, out, d, hn, hk, hb, ho, hd, hi => by
  obtain ⟨x, hx⟩ := gp7 (xs := r.commits) (i := k) (by omega)
  obtain ⟨bd, hbd⟩ := gp7 (xs := d) (i := k) (by omega)
  have e1 : (((k + 1 : Nat) : Int) - 1) = (k : Int) := by omega
  have hw : IntKind.i64.wrap ((k : Int) - 1) = (k : Int) - 1 := aN7 (by omega) (by omega)
  have hge : decide ((k : Int) ≥ 0) = true := decide_eq_true (by omega)
  have h2 := hc.two x (List.mem_of_getElem? hx)
  have hr : aT7 = 4194303 + 1 := rfl
  have skip : ¬ Com r.commits a b k → cQ7 (kU7 r.commits [a]) (kU7 r.commits [b]) r n ((k : Int) - 1) out d = some (out ++ gq7 (fun k => decide (mH7 r.commits a b k)) (k + 1)) := fun hnc => by
   have hnb : ¬ mH7 r.commits a b k := fun h => hnc h.1
   rw [f27 hc k n out d (by omega) (by omega) (by omega) (by omega) hd fun j hj => ?_]
   ·simp [gq7, hnb]
   ·rw [hi j (by omega)]
    constructor
    ·rintro ⟨c, y, u, h1, h3⟩
     exact ⟨c, y, u, by omega, h3⟩
    ·rintro ⟨c, y, u, h1, h3⟩
     rcases Nat.eq_or_lt_of_le h1 with rfl | h1
     ·exact absurd h3.1 hnc
     ·exact ⟨c, y, u, h1, h3⟩
  rw [e1]
  simp only [cQ7, hge, if_true, hw, ag7, d07 (show k < r.commits.length by omega), hbd, Option.bind_some]
  by_cases h1 : Anc r.commits a k
  ·by_cases h3 : Anc r.commits b k
   ·have hcom : Com r.commits a b k := ⟨h1, h3⟩
    have hdb : bd = true ↔ ¬ mH7 r.commits a b k := by
     rw [← yB7 hc hcom]
     have := hi k (by omega)
     rw [hbd] at this
     simp only [Option.some.injEq] at this
     rw [this]
     constructor
     ·rintro ⟨c, y, u, _, h⟩
      exact ⟨c, y, u, h⟩
     ·rintro ⟨c, y, u, h4, h5, h6, h7⟩
      have := hc.lt _ _ h5 _ h6
      exact ⟨c, y, u, by omega, h4, h5, h6, h7⟩
    have hstep : dC7 r (k : Int) aT7 0 d = some (dZ7 d x.up) := by
     have := iR7 hx h2 x.up 0 aT7 d rfl (by rw [hr]; omega) (fun u hu => by have := hc.lt k x hx u hu; omega)
     simpa using this
    have ih : ∀ out', out'.length + k ≤ 1048576 → cQ7 (kU7 r.commits [a]) (kU7 r.commits [b]) r n ((k : Int) - 1) out' (dZ7 d x.up) = some (out' ++ gq7 (fun k => decide (mH7 r.commits a b k)) k) := fun out' ho' => by
     refine f27 hc k n out' _ (by omega) (by omega) (by omega) ho' (by rw [jE7, hd]) fun j hj => ?_
     rw [cG7, hi j (by omega)]
     constructor
     ·rintro (⟨c, y, u, h4, h5⟩ | ⟨_, u, h4, rfl⟩)
      ·exact ⟨c, y, u, by omega, h5⟩
      ·exact ⟨k, x, u, Nat.le_refl _, hcom, hx, h4, rfl⟩
     ·rintro ⟨c, y, u, h4, h5, h6, h7, h8⟩
      rcases Nat.eq_or_lt_of_le h4 with rfl | h4
      ·rw [hx] at h6
       cases h6
       exact .inr ⟨by omega, u, h7, h8.symm⟩
      ·exact .inl ⟨c, y, u, h4, h5, h6, h7, h8⟩
    simp only [h1, h3, decide_true, Bool.not_true, hstep, Option.bind_some]
    cases bd
    ·have hbase : mH7 r.commits a b k := Classical.byContradiction fun h => by simpa using hdb.2 h
     simp only [Bool.not_false, if_true]
     rw [if_neg (by decide), if_neg (by decide), if_pos (aa7 (by simp; omega))]
     simp only [Option.bind_some]
     rw [ih _ (by simp; omega)]
     simp [gq7, hbase]
    ·have hbase : ¬ mH7 r.commits a b k := hdb.1 rfl
     simp only [Bool.not_true]
     rw [if_neg (by decide), if_neg (by decide), if_neg (by decide)]
     simp only [Option.bind_some]
     rw [ih _ (by omega)]
     simp [gq7, hbase]
   ·simp only [h1, h3, decide_true, decide_false, Bool.not_true, Bool.not_false]
    rw [if_neg (by decide), if_pos trivial]
    exact skip fun h => h3 h.2
  ·simp only [h1, decide_false, Bool.not_false, if_true]
   exact skip fun h => h1 h.1
def inR (r : am7) (k : Int) : Bool := bk7 r && (decide (0 ≤ k) && decide (k < (r.commits.length : Int)))
theorem ko7 {r : am7} {k : Int} (h : inR r k = true) : bk7 r = true ∧ ∃ n : Nat, k = (n : Int) ∧ n < r.commits.length := by
 unfold inR at h
 simp only [Bool.and_eq_true, decide_eq_true_eq] at h
 exact ⟨h.1, k.toNat, by omega, by omega⟩
theorem ta7 {r : am7} {a b : Int} (hw : ba7 r ≤ 1048576) : qR7 r a b = some (if (inR r a && inR r b) = true then of7 r.commits a.toNat b.toNat else []) := by
 unfold qR7
 rw [uE7 hw, uE7 hw]
 by_cases h1 : inR r a = true
 ·by_cases h2 : inR r b = true
  ·obtain ⟨hr, i, rfl, hi⟩ := ko7 h1
   obtain ⟨_, j, rfl, hj⟩ := ko7 h2
   have hc := cV7 hr
   have hl := (dO7 hr).1.2
   have hrd : aT7 = 4194303 + 1 := rfl
   rw [h1, h2]
   simp only [inR] at h1 h2
   rw [h1, h2, jG7 hc (by omega) hi, jG7 hc (by omega) hj]
   simp only [Option.bind_some, Bool.not_true, if_true]
   rw [if_neg (by decide), if_neg (by decide), if_pos (by simp [aa7 (n := r.commits.length) (by omega)]), aN7 (by omega) (by omega), Int.toNat_natCast, f27 hc r.commits.length aT7 [] _ (by rw [hrd]; omega) (Nat.le_refl _) (by omega) (by simp; omega) (by simp) (fun k hk => ?_)]
   ·rfl
   ·constructor
    ·exact fun h => absurd h yC7
    ·rintro ⟨c, x, u, h3, h4, h5, _⟩
     have := eD7 h5
     omega
  ·have h2' := h2
   simp only [inR] at h1 h2'
   rw [h1]
   simp only [Bool.not_eq_true] at h2'
   rw [h2']
   simp [h2]
 ·have h1' := h1
  simp only [inR, Bool.not_eq_true] at h1'
  rw [h1']
  simp [h1]
open Classical in
theorem vU7 {r : am7} (hc : pG7 r.commits) (hl : r.commits.length ≤ 1048576) {k : Nat} (hk : k < r.commits.length) {out : List Int} (ho : ∀ u ∈ out, ∃ j : Nat, u = (j : Int) ∧ j < r.commits.length) (hlen : out.length ≤ 1048576) : re7 out r (k : Int) = some (decide (∃ j : Nat, (j : Int) ∈ out ∧ Anc r.commits j k)) := by
 have key0 : rd7 out r (k : Int) = some (aM7 (fun u => decide (Anc r.commits u.toNat k)) out 0) := by
  unfold rd7
  rw [if_pos (aa7 hlen)]
  exact mX7 (gl := fK7 r (k : Int)) (p := fun u => decide (Anc r.commits u.toNat k)) (ok := fun u => ∃ j : Nat, u = (j : Int) ∧ j < r.commits.length) (fun _ => rfl) (fun u l i hu => by
   obtain ⟨j, rfl, hj⟩ := hu
   simp only [fK7, uo7, oi7 hc hl hj, Option.bind_some, ag7, d07 hk, Int.toNat_natCast]) out 0 ho
 unfold re7
 rw [key0]
 ·simp only [Option.bind_some, Option.some.injEq]
  have key : ∀ (l : List Int) (i : Nat), (∀ u ∈ l, ∃ j : Nat, u = (j : Int) ∧ j < r.commits.length) → (aM7 (fun u => decide (Anc r.commits u.toNat k)) l i ≥ 0 ↔ ∃ j : Nat, (j : Int) ∈ l ∧ Anc r.commits j k) := fun l => by
   induction l with
   | nil => intro i _; simp [aM7]
   | cons u l ih =>
    intro i hl
    obtain ⟨j, rfl, hj⟩ := hl u (by simp)
    simp only [aM7, Int.toNat_natCast]
    by_cases hp : Anc r.commits j k
    ·rw [if_pos (by simpa using hp)]
     exact ⟨fun _ => ⟨j, by simp, hp⟩, fun _ => by omega⟩
    ·rw [if_neg (by simpa using hp), ih (i + 1) fun u hu => hl u (by simp [hu])]
     constructor
     ·rintro ⟨j', h1, h2⟩
      exact ⟨j', by simp [h1], h2⟩
     ·rintro ⟨j', h1, h2⟩
      rcases List.mem_cons.1 h1 with h1 | h1
      ·have : j' = j := by omega
       subst this
       exact absurd h2 hp
      ·exact ⟨j', h1, h2⟩
  exact decide_eq_decide.2 (key out 0 ho)
open Classical in
theorem f37 {r : am7} {a b : Nat} (hc : pG7 r.commits) (hl : r.commits.length ≤ 1048576) : ∀ (k n : Nat) (out : List Int), k < n → k ≤ r.commits.length → out.length + k ≤ 1048576 → (∀ u, u ∈ out ↔ ∃ j : Nat, u = (j : Int) ∧ k ≤ j ∧ mH7 r.commits a b j ∧ j < r.commits.length) → iB7 (kU7 r.commits [a]) (kU7 r.commits [b]) r n out ((k : Int) - 1) = some (out ++ gq7 (fun k => decide (mH7 r.commits a b k)) k)
 | _, 0, _, h, _, _, _ => by omega
 | 0, n + 1, out, _, _, _, _ => by
  simp only [gq7, List.append_nil]
  rfl
 | k + 1, n + 1, out, hn, hk, ho, hi => by
  have e1 : (((k + 1 : Nat) : Int) - 1) = (k : Int) := by omega
  have hw : IntKind.i64.wrap ((k : Int) - 1) = (k : Int) - 1 := aN7 (by omega) (by omega)
  have hge : decide ((k : Int) ≥ 0) = true := decide_eq_true (by omega)
  have skip : ¬ mH7 r.commits a b k → iB7 (kU7 r.commits [a]) (kU7 r.commits [b]) r n out ((k : Int) - 1) = some (out ++ gq7 (fun k => decide (mH7 r.commits a b k)) (k + 1)) := fun hnb => by
   rw [f37 hc hl k n out (by omega) (by omega) (by omega) fun u => ?_]
   ·simp [gq7, hnb]
   ·rw [hi u]
    constructor
    ·rintro ⟨j, h1, h2, h3⟩
     exact ⟨j, h1, by omega, h3⟩
    ·rintro ⟨j, h1, h2, h3⟩
     rcases Nat.eq_or_lt_of_le h2 with rfl | h2
     ·exact absurd h3.1 hnb
     ·exact ⟨j, h1, h2, h3⟩
  have take : mH7 r.commits a b k → iB7 (kU7 r.commits [a]) (kU7 r.commits [b]) r n (out ++ [(k : Int)]) ((k : Int) - 1) = some (out ++ gq7 (fun k => decide (mH7 r.commits a b k)) (k + 1)) := fun hb => by
   rw [f37 hc hl k n _ (by omega) (by omega) (by simp; omega) fun u => ?_]
   ·simp [gq7, hb]
   ·rw [List.mem_append, hi u, List.mem_singleton]
    constructor
    ·rintro (⟨j, h1, h2, h3⟩ | rfl)
     ·exact ⟨j, h1, by omega, h3⟩
     ·exact ⟨k, rfl, Nat.le_refl _, hb, by omega⟩
    ·rintro ⟨j, h1, h2, h3⟩
     rcases Nat.eq_or_lt_of_le h2 with rfl | h2
     ·exact .inr h1
     ·exact .inl ⟨j, h1, h2, h3⟩
  rw [e1]
  simp only [iB7, hge, if_true, hw, ag7, d07 (show k < r.commits.length by omega), Option.bind_some]
  by_cases h1 : Anc r.commits a k
  ·by_cases h3 : Anc r.commits b k
   ·have hcom : Com r.commits a b k := ⟨h1, h3⟩
    rw [vU7 hc hl (by omega) (fun u hu => by
     obtain ⟨j, h4, _, _, h5⟩ := (hi u).1 hu
     exact ⟨j, h4, h5⟩) (by omega)]
    have hct : (∃ j : Nat, (j : Int) ∈ out ∧ Anc r.commits j k) ↔ ¬ mH7 r.commits a b k := by
     rw [← uB7 hc hcom]
     constructor
     ·rintro ⟨j, h4, h5⟩
      obtain ⟨j', h6, h7, h8, h9⟩ := (hi _).1 h4
      have : j = j' := by omega
      subst this
      exact ⟨j, by omega, h8, h5⟩
     ·rintro ⟨j, h4, h5, h6⟩
      refine ⟨j, (hi _).2 ⟨j, rfl, by omega, h5, ?_⟩, h6⟩
      rcases h6.last with rfl | ⟨c, x, u, h7, h8, _⟩
      ·omega
      ·rcases Nat.lt_or_ge j r.commits.length with h | h
       ·exact h
       ·exfalso
        have : ∀ p q, Anc r.commits p q → r.commits.length ≤ p → q = p := fun p q hpq hp => by
         induction hpq with
         | refl => rfl
         | up ha hx hu ih =>
          have := eD7 hx
          omega
        have := this j k h6 h
        omega
    simp only [h1, h3, decide_true, Bool.not_true, Option.bind_some]
    rw [if_neg (by decide), if_neg (by decide)]
    by_cases hb : mH7 r.commits a b k
    ·have hf : decide (∃ j : Nat, (j : Int) ∈ out ∧ Anc r.commits j k) = false := decide_eq_false fun h => hct.1 h hb
     rw [hf]
     simp only [Bool.not_false, if_true]
     rw [if_pos (aa7 (by simp; omega))]
     exact take hb
    ·have hf : decide (∃ j : Nat, (j : Int) ∈ out ∧ Anc r.commits j k) = true := decide_eq_true (hct.2 hb)
     rw [hf]
     simp only [Bool.not_true]
     rw [if_neg (by decide)]
     exact skip hb
   ·simp only [h1, h3, decide_true, decide_false, Bool.not_true, Bool.not_false]
    rw [if_neg (by decide), if_pos trivial]
    exact skip fun h => h3 h.1.2
  ·simp only [h1, decide_false, Bool.not_false, if_true]
   exact skip fun h => h1 h.1.1
theorem tb7 {r : am7} {a b : Int} (hw : ba7 r ≤ 1048576) : rf7 r a b = some (if (inR r a && inR r b) = true then of7 r.commits a.toNat b.toNat else []) := by
 have hla : r.commits.length ≤ 1048576 := by unfold ba7 wL at hw; omega
 unfold rf7
 rw [iQ7 hw, gI7 hla, gI7 hla]
 by_cases h1 : inR r a = true
 ·by_cases h2 : inR r b = true
  ·obtain ⟨hr, i, rfl, hi⟩ := ko7 h1
   obtain ⟨_, j, rfl, hj⟩ := ko7 h2
   have hc := cV7 hr
   have hl := (dO7 hr).1.2
   have hrd : aT7 = 4194303 + 1 := rfl
   rw [h1, h2, hr]
   simp only [Option.bind_some, Bool.not_true, oi7 hc hla hi, oi7 hc hla hj, uz7]
   have e1 : (decide ((0 : Int) ≤ (i : Int)) && decide ((i : Int) < (r.commits.length : Int))) = true := by simp; omega
   have e2 : (decide ((0 : Int) ≤ (j : Int)) && decide ((j : Int) < (r.commits.length : Int))) = true := by simp; omega
   rw [e1, e2]
   simp only [Bool.not_true, Bool.and_true, if_true]
   rw [if_neg (by decide), if_neg (by decide), if_neg (by decide), aN7 (by omega) (by omega), f37 hc hla r.commits.length aT7 [] (by rw [hrd]; omega) (Nat.le_refl _) (by simp; omega) (fun u => ?_)]
   ·rfl
   ·constructor
    ·intro h; cases h
    ·rintro ⟨j, _, h3, _, h4⟩
     omega
  ·rw [h1]
   unfold inR at h1 h2
   simp only [Bool.and_eq_true] at h1
   simp only [h1.1, h1.2, Bool.true_and, Bool.not_eq_true] at h2
   simp only [h1.1, h2, inR]
   simp only [h1.2]
   simp
 ·unfold inR at h1
  by_cases hr : bk7 r = true
  ·simp only [hr, Bool.true_and, Bool.not_eq_true] at h1
   simp [hr, h1, inR]
  ·simp [hr, inR]
noncomputable def cW7 (r : am7) (a b : Int) : Int := ((if (inR r a && inR r b) = true then of7 r.commits a.toNat b.toNat else []).head?).getD (-1)
theorem vV7 {r : am7} {a b : Int} (hw : ba7 r ≤ 1048576) : q37 r a b = some (cW7 r a b) := by
 unfold q37 cW7
 rw [ta7 hw]
 simp only [Option.bind_some]
 generalize (if (inR r a && inR r b) = true then of7 r.commits a.toNat b.toNat else []) = l
 cases l with
 | nil => rfl
 | cons x l =>
  rw [if_neg (by simp; omega)]
  rfl
theorem oj7 {r : am7} {a b : Int} (hw : ba7 r ≤ 1048576) : n47 r a b = some (cW7 r a b) := by
 unfold n47 cW7
 rw [tb7 hw]
 simp only [Option.bind_some]
 generalize (if (inR r a && inR r b) = true then of7 r.commits a.toNat b.toNat else []) = l
 cases l with
 | nil => rfl
 | cons x l =>
  rw [if_neg (by simp; omega)]
  rfl
def c1 {α : Type} (_ : α) : Nat := 1
def c2 {α : Type} (_ : α) : Nat := 2
theorem rY7 {α : Type} {p : α → Bool} : ∀ {l : List α} {k : Nat}, aM7 p l k = -1 ∨ ∃ j x, aM7 p l k = ((k + j : Nat) : Int) ∧ l[j]? = some x ∧ p x = true
 | [], k => .inl rfl
 | x :: l, k => by
  simp only [aM7]
  by_cases h : p x = true
  ·rw [if_pos h]
   exact .inr ⟨0, x, rfl, rfl, h⟩
  ·rw [if_neg h]
   rcases rY7 (p := p) (l := l) (k := k + 1) with h1 | ⟨j, y, h1, h2, h3⟩
   ·exact .inl h1
   ·exact .inr ⟨j + 1, y, by rw [h1]; congr 1; omega, by simpa using h2, h3⟩
theorem hV7 {r : am7} (hr : bk7 r = true) (n : Str) : be7 r.heads n = -1 ∨ ∃ (k a : Nat) (h : Head), be7 r.heads n = (k : Int) ∧ r.heads[k]? = some h ∧ h.name = n ∧ h.at_ = (a : Int) ∧ a < r.commits.length := by
 rcases rY7 (p := fun x : Head => decide (x.name = n)) (l := r.heads) (k := 0) with h | ⟨j, x, h1, h2, h3⟩
 ·exact .inl h
 ·refine .inr ⟨j, x.at_.toNat, x, by unfold be7; rw [h1]; simp, h2, by simpa using h3, ?_⟩
  unfold bk7 at hr
  simp only [Bool.and_eq_true] at hr
  have := cf7 hr.2.2.2.2.2 j x h2
  simp only [Bool.and_eq_true, decide_eq_true_eq] at this
  omega
def f47 (r : am7) (n : Str) : Int := if bk7 r = true then (match idx r.heads (be7 r.heads n) with | some h => h.at_ | none => -1) else -1
theorem rZ7 (r : am7) (n : Str) : (f47 r n = -1 ∧ (bk7 r = true → be7 r.heads n = -1)) ∨ ∃ (k a : Nat) (h : Head), bk7 r = true ∧ be7 r.heads n = (k : Int) ∧ r.heads[k]? = some h ∧ h.name = n ∧ h.at_ = (a : Int) ∧ a < r.commits.length ∧ f47 r n = (a : Int) := by
 by_cases hr : bk7 r = true
 ·rcases hV7 hr n with h | ⟨k, a, h, h1, h2, h3, h4, h5⟩
  ·refine .inl ⟨?_, fun _ => h⟩
   unfold f47
   rw [if_pos hr, h]
   rfl
  ·refine .inr ⟨k, a, h, hr, h1, h2, h3, h4, h5, ?_⟩
   unfold f47
   rw [if_pos hr, h1, ag7, h2]
   exact h4
 ·exact .inl ⟨by unfold f47; rw [if_neg hr], fun h => absurd h hr⟩
theorem iS7 {α : Type} {g : α → Option α} {gl : List α → Nat → List α → Option (List α)} (h0 : ∀ k v, gl [] k v = some v) (h1 : ∀ x l k v, gl (x :: l) k v = (g x).bind fun y => if aH7 (v ++ [y]).length = true then gl l (k + 1) (v ++ [y]) else none) : ∀ (l : List α) (k : Nat) (v : List α), (∀ x ∈ l, g x = some x) → v.length + l.length ≤ 1048576 → gl l k v = some (v ++ l)
 | [], k, v, _, _ => by rw [h0]; simp
 | x :: l, k, v, hx, hl => by
  simp only [List.length_cons] at hl
  rw [h1, hx x (by simp)]
  simp only [Option.bind_some]
  rw [if_pos (aa7 (by simp; omega)), iS7 h0 h1 l (k + 1) _ (fun y hy => hx y (by simp [hy])) (by simp; omega)]
  simp
theorem kX7 {f : Feat} (h : aZ7 f ≤ 1048576) : ho7 f = some f := by
 unfold aZ7 hk7 wL at h
 unfold ho7 lO7
 rw [if_pos (aa7 (by simp; omega))]
 simp only [Option.bind_some]
 rw [if_pos (aa7 (by simp; omega))]
 rfl
theorem ps7 {fs : List Feat} (h : wL aZ7 fs ≤ 1048576) : nO7 fs = some fs := by
 have hl : fs.length ≤ 1048576 := by unfold wL at h; omega
 unfold nO7
 rw [if_pos (aa7 hl), iS7 (gl := gY7) (fun _ _ => rfl) (fun _ _ _ _ => rfl) fs 0 [] (fun x hx => kX7 (by have := bA7 (w := aZ7) hx; unfold wL at h; omega)) (by simpa using hl)]
 rfl
theorem yE7 {c : Commit} (h : aA7 c ≤ 1048576) : j77 c = some c := by
 unfold aA7 at h
 unfold j77
 rw [if_pos (aa7 (by unfold wL at h; simp; omega)), ps7 (by omega)]
 rfl
theorem pt7 {r : am7} (h : ba7 r ≤ 1048576) : lS7 r = some r := by
 unfold ba7 at h
 have hl : r.commits.length ≤ 1048576 := by unfold wL at h; omega
 unfold lS7
 rw [if_pos (aa7 (by unfold wL at h; simp; omega)), if_pos (aa7 hl), iS7 (gl := gZ7) (fun _ _ => rfl) (fun _ _ _ _ => rfl) r.commits 0 [] (fun x hx => yE7 (by have := bA7 (w := aA7) hx; unfold wL at h; omega)) (by simpa using hl)]
 rfl
theorem f57 {f : Feat} (h : aZ7 f ≤ 1048576) : kd7 f = some f := by
 unfold aZ7 hk7 wL at h
 unfold kd7 lV7
 rw [if_pos (aa7 (by simp; omega))]
 simp only [Option.bind_some]
 rw [if_pos (aa7 (by simp; omega))]
 rfl
theorem r07 {fs : List Feat} (h : wL aZ7 fs ≤ 1048576) : rb7 fs = some fs := by
 have hl : fs.length ≤ 1048576 := by unfold wL at h; omega
 unfold rb7
 rw [if_pos (aa7 hl), iS7 (gl := g07) (fun _ _ => rfl) (fun _ _ _ _ => rfl) fs 0 [] (fun x hx => f57 (by have := bA7 (w := aZ7) hx; unfold wL at h; omega)) (by simpa using hl)]
 rfl
theorem iT7 {c : Commit} (h : aA7 c ≤ 1048576) : nZ7 c = some c := by
 unfold aA7 at h
 unfold nZ7
 rw [if_pos (aa7 (by unfold wL at h; simp; omega)), r07 (by omega)]
 rfl
theorem tc7 {r : am7} (h : ba7 r ≤ 1048576) : rq7 r = some r := by
 unfold ba7 at h
 have hl : r.commits.length ≤ 1048576 := by unfold wL at h; omega
 unfold rq7
 rw [if_pos (aa7 (by unfold wL at h; simp; omega)), if_pos (aa7 hl), iS7 (gl := g27) (fun _ _ => rfl) (fun _ _ _ _ => rfl) r.commits 0 [] (fun x hx => iT7 (by have := bA7 (w := aA7) hx; unfold wL at h; omega)) (by simpa using hl)]
 rfl
def Q67 : am7 := ⟨[], []⟩
def jH7 (r : am7) (n f : Str) : am7 × Int :=
 if (bk7 r && bd7 n) = true then
  (if be7 r.heads f < 0 then (r, 1) else if 0 ≤ be7 r.heads n ∨ r.heads.length = 4 then (r, 2) else
   match idx r.heads (be7 r.heads f) with
   | some h => (⟨r.commits, r.heads ++ [⟨n, h.at_⟩]⟩, 0)
   | none => (Q67, 9))
 else (Q67, 4)
theorem r17 {r : am7} {n f : Str} (hw : ba7 r ≤ 1048576) (hn : n.size ≤ 1048576) : rz7 r n f = some (jH7 r n f) := by
 have hh : r.heads.length ≤ 1048576 := by unfold ba7 wL at hw; omega
 unfold rz7 jH7
 rw [pq7 hw, eE7 hn, pt7 hw, g57 hh, g57 hh]
 simp only [Option.bind_some]
 by_cases hr : bk7 r = true
 ·by_cases hx : bd7 n = true
  ·have h4 : r.heads.length ≤ 4 := (dO7 hr).2.2
   rw [hr, hx]
   simp only [Bool.not_true, Bool.and_self, if_true]
   rw [if_neg (by decide), if_neg (by decide)]
   rcases hV7 hr f with h | ⟨k, a, h, h1, h2, _⟩
   ·rw [h]
    rfl
   ·rw [h1]
    have hk : ¬ ((k : Int) < 0) := by omega
    by_cases h5 : 0 ≤ be7 r.heads n
    ·simp [hk, h5]
    ·by_cases h6 : r.heads.length = 4
     ·simp [hk, h5, h6]
     ·have h6' : ¬ ((r.heads.length : Int) = 4) := by omega
      have h6'' : ¬ ((4 : Int) ≤ (r.heads.length : Int)) := by omega
      have hfit : aH7 (r.heads.length + 1) = true := aa7 (by omega)
      simp [hk, h5, h6, h6', h6'', ag7, h2, hfit]
  ·simp only [Bool.not_eq_true] at hx
   rw [hr, hx]
   rfl
 ·simp only [Bool.not_eq_true] at hr
  rw [hr]
  rfl
def cnt (m : List Bool) : Nat → Nat
 | 0 => 0
 | k + 1 => cnt m k + (if gj7 m k = true then 1 else 0)
def A97 (m : List Bool) (c : Commit) : Commit := ⟨c.up.map fun u => (cnt m u.toNat : Int), c.sheet, c.note⟩
def gk7 (m : List Bool) : List Commit → Nat → List Commit
 | [], _ => []
 | x :: l, k => if gj7 m k = true then A97 m x :: gk7 m l (k + 1) else gk7 m l (k + 1)
def eG7 (hs : List Head) (k : Nat) (h : Head) (v : Int) : List Head := hs.set k ⟨h.name, v⟩
def Qk7 (r : am7) (n : Str) (s : List Feat) (t : Str) : am7 × Int :=
 if (bk7 r && (a87 s && bd7 t)) = true then
  (match idx r.heads (be7 r.heads n) with
  | none => (r, 1)
  | some h => match idx r.commits h.at_ with
   | none => (r, 1)
   | some x => if x.sheet = s then (r, 3) else
    if cl7 r.commits ⟨[h.at_], s, t⟩ < 0 then
     (if r.commits.length = 14 then (r, 2) else (⟨r.commits ++ [⟨[h.at_], s, t⟩], eG7 r.heads (be7 r.heads n).toNat h r.commits.length⟩, 0))
    else (⟨r.commits, eG7 r.heads (be7 r.heads n).toNat h (cl7 r.commits ⟨[h.at_], s, t⟩)⟩, 0))
 else (⟨[], []⟩, 4)
theorem pu7 {α : Type} {w : α → Nat} : ∀ (xs : List α) (k : Nat) (x y : α), xs[k]? = some x → w y ≤ w x → h37 w (xs.set k y) ≤ h37 w xs
 | [], k, x, y, h, _ => by simp at h
 | z :: xs, 0, x, y, h, hw => by
  simp only [List.getElem?_cons_zero, Option.some.injEq] at h
  subst h
  simp only [List.set_cons_zero, h37]
  omega
 | z :: xs, k + 1, x, y, h, hw => by
  have := pu7 xs k x y (by simpa using h) hw
  simp only [List.set_cons_succ, h37]
  omega
theorem uG7 {hs : List Head} {n : Str} {h : Head} {v : Int} (hh : idx hs (be7 hs n) = some h) : wL hS7 (eG7 hs (be7 hs n).toNat h v) ≤ wL hS7 hs := by
 have h1 := (aF7 hh).2
 have := pu7 (w := hS7) hs _ h ⟨h.name, v⟩ h1 (Nat.le_refl _)
 unfold wL eG7
 simp only [List.length_set]
 omega
theorem mj7 {α : Type} {w : α → Nat} : ∀ (a : List α) (x : α), h37 w (a ++ [x]) = h37 w a + w x
 | [], x => by simp [h37]
 | y :: a, x => by simp only [List.cons_append, h37, mj7 a x]; omega
theorem Mm7 {r : am7} {n t : Str} {s : List Feat} : ba7 (Qk7 r n s t).1 ≤ ba7 r + (2 + (wL aZ7 s + t.size)) := by
 unfold Qk7
 split
 ·split
  ·simp only; omega
  ·rename_i h hh
   split
   ·simp only; omega
   ·split
    ·simp only; omega
    ·split
     ·split
      ·simp only; omega
      ·have := uG7 (v := (r.commits.length : Int)) hh
       simp only [ba7]
       have e : wL aA7 (r.commits ++ [⟨[h.at_], s, t⟩]) = wL aA7 r.commits + (1 + aA7 ⟨[h.at_], s, t⟩) := by
        unfold wL
        rw [mj7]
        simp
        omega
       have e2 : aA7 ⟨[h.at_], s, t⟩ = 1 + (wL aZ7 s + (t.size + 0)) := by unfold aA7; simp [wL, h37, w0]
       omega
     ·have := uG7 (v := cl7 r.commits ⟨[h.at_], s, t⟩) hh
      simp only [ba7]
      omega
 ·have : ba7 ⟨[], []⟩ = 0 := rfl
  simp only [this]
  omega
theorem Fr7 {a b : Int} (h1 : 0 ≤ a) (h2 : a < 4294967296) (h3 : 0 ≤ b) (h4 : b < 4294967296) : 0 ≤ FO7 a b := by
 unfold FO7
 have e : ((BitVec.ofInt 64 a ^^^ BitVec.ofInt 64 b).toNat) < 2 ^ 32 := by
  rw [BitVec.toNat_xor, BitVec.toNat_ofInt, BitVec.toNat_ofInt]
  apply Nat.xor_lt_two_pow
  ·have : (a % ((2 ^ 64 : Nat) : Int)) = a := Int.emod_eq_of_lt h1 (by omega)
   rw [this]
   omega
  ·have : (b % ((2 ^ 64 : Nat) : Int)) = b := Int.emod_eq_of_lt h3 (by omega)
   rw [this]
   omega
 rw [aN7 (by omega) (by omega)]
 omega
theorem pv7 {a b : Int} (h : 0 < b) (ha : 0 ≤ a) : ∃ v, zo7 a b = some v ∧ 0 ≤ v ∧ v < b := by
 unfold zo7
 rw [if_pos (by omega)]
 exact ⟨_, rfl, Int.tmod_nonneg b ha, Int.tmod_lt_of_pos a h⟩
theorem Ql7 {b : List UInt8} {i : Int} (h0 : 0 ≤ i) (h : i < b.length) : ∃ x : UInt8, idx b i = some x := by
 rw [cn7 h0]
 exact gp7 (by omega)
theorem yF7 {b : List UInt8} {p n : Int} (hb : b.length ≤ 2000) (h0 : 0 ≤ p) (hp : p ≤ 1000000) : ∃ v, bJ7 ⟨b, p⟩ n = some (v, p + 1) ∧ 0 ≤ v ∧ (1 ≤ n → v < n) := by
 unfold bJ7
 simp only
 have e1 : IntKind.i64.wrap (p + 1) = p + 1 := aN7 (by omega) (by omega)
 have e2 : IntKind.i64.wrap (p + 1 - 1) = p := by rw [aN7 (by omega) (by omega)]; omega
 rw [e1, e2]
 by_cases hn : n < 1
 ·rw [if_pos (by simpa using hn)]
  exact ⟨0, rfl, by omega, by omega⟩
 rw [if_neg (by simpa using hn)]
 by_cases hz : b.length = 0
 ·rw [if_pos (by simp [hz])]
  exact ⟨0, rfl, by omega, by omega⟩
 rw [if_neg (by simpa using hz)]
 have hx8 : ∀ x : UInt8, (x.toNat : Int) < 256 := fun x => by have := x.toNat_lt; omega
 by_cases hl : p < b.length
 ·rw [if_pos (by simpa using hl)]
  obtain ⟨x, hx⟩ := Ql7 h0 hl
  have := hx8 x
  rw [hx, Option.bind_some, aN7 (by omega) (by omega)]
  obtain ⟨v, hv, h1, h2⟩ := pv7 (a := (x.toNat : Int)) (b := n) (by omega) (by omega)
  rw [hv]
  exact ⟨v, rfl, h1, fun _ => h2⟩
 rw [if_neg (by simpa using hl)]
 obtain ⟨i, hi, i1, i2⟩ := pv7 (a := p) (b := b.length) (by omega) h0
 obtain ⟨x, hx⟩ := Ql7 i1 i2
 have e3 : IntKind.i64.wrap (IntKind.i64.wrap (p * 7) + 3) = p * 7 + 3 := by rw [aN7 (n := p * 7) (by omega) (by omega), aN7 (by omega) (by omega)]
 obtain ⟨j, hj, j1, j2⟩ := pv7 (a := p * 7 + 3) (b := b.length) (by omega) (by omega)
 obtain ⟨y, hy⟩ := Ql7 j1 j2
 have q1 : 0 ≤ p.tdiv b.length := Int.tdiv_nonneg h0 (by omega)
 have q2 : p.tdiv b.length ≤ p := Int.tdiv_le_self _ h0
 have hq : C87 p b.length = some (p.tdiv b.length) := by
  unfold C87
  rw [if_pos (by omega), aN7 (by omega) (by omega)]
 rw [hi, Option.bind_some, hx, Option.bind_some, e3, hj, Option.bind_some, hy, Option.bind_some, hq, Option.bind_some]
 have ux := hx8 x
 have uy := hx8 y
 have wx : 0 ≤ (x.toNat : Int) := by omega
 have wy : 0 ≤ (y.toNat : Int) := by omega
 generalize (x.toNat : Int) = X at ux wx ⊢
 generalize (y.toNat : Int) = Y at uy wy ⊢
 generalize p.tdiv b.length = T at q1 q2 ⊢
 rw [aN7 (n := X) (by omega) (by omega), aN7 (n := Y) (by omega) (by omega), aN7 (n := X * 131) (by omega) (by omega), aN7 (n := Y * 1117) (by omega) (by omega), aN7 (n := X * 131 + Y * 1117) (by omega) (by omega),
  aN7 (n := p * 29) (by omega) (by omega), aN7 (n := X * 131 + Y * 1117 + p * 29) (by omega) (by omega), aN7 (n := T * 53) (by omega) (by omega), aN7 (n := X * 131 + Y * 1117 + p * 29 + T * 53) (by omega) (by omega)]
 have s0 : 0 ≤ X * 131 + Y * 1117 + p * 29 + T * 53 := by omega
 have s1 : X * 131 + Y * 1117 + p * 29 + T * 53 < 4294967296 := by omega
 generalize X * 131 + Y * 1117 + p * 29 + T * 53 = S at s0 s1 ⊢
 have t0 : 0 ≤ S.tdiv 64 := Int.tdiv_nonneg s0 (by omega)
 have t1 : S.tdiv 64 ≤ S := Int.tdiv_le_self _ s0
 rw [aN7 (by omega) (by omega)]
 obtain ⟨v, hv, h1, h2⟩ := pv7 (a := FO7 S (S.tdiv 64)) (b := n) (by omega) (Fr7 s0 s1 t0 (by omega))
 rw [hv]
 exact ⟨v, rfl, h1, fun _ => h2⟩
def Drw {α : Type} (g : Rd → Option (α × Int)) (k : Nat) (P : α → Prop) : Prop := ∀ (b : List UInt8) (p : Int), b.length ≤ 2000 → 0 ≤ p → p + k ≤ 100000 → ∃ a p', g ⟨b, p⟩ = some (a, p') ∧ p ≤ p' ∧ p' ≤ p + k ∧ P a
theorem bN7 {n : Int} : Drw (fun r => bJ7 r n) 1 fun v => 0 ≤ v ∧ (1 ≤ n → v < n) := fun b p hb h0 hp => by
 obtain ⟨v, hv, h⟩ := yF7 (n := n) hb h0 (by omega)
 exact ⟨v, p + 1, hv, by omega, by omega, h⟩
theorem r27 {l : List Str} (hl : l ≠ []) : Drw (fun r => ge7 r l) 1 fun v => v ∈ l := fun b p hb h0 hp => by
 obtain ⟨v, hv, h1, h2⟩ := yF7 (n := (l.length : Int)) hb h0 (by omega)
 have hn : 0 < l.length := List.length_pos_iff.2 hl
 have h3 := h2 (by omega)
 have hx : idx l v = some l[v.toNat] := by rw [cn7 h1]; exact List.getElem?_eq_getElem (by omega)
 exact ⟨l[v.toNat], p + 1, by simp only [ge7, hv, Option.bind_some, hx], by omega, by omega, List.getElem_mem _⟩
theorem r37 {l : List Int} (hl : l ≠ []) : Drw (fun r => iC7 r l) 1 fun v => v ∈ l := fun b p hb h0 hp => by
 obtain ⟨v, hv, h1, h2⟩ := yF7 (n := (l.length : Int)) hb h0 (by omega)
 have hn : 0 < l.length := List.length_pos_iff.2 hl
 have h3 := h2 (by omega)
 have hx : idx l v = some l[v.toNat] := by rw [cn7 h1]; exact List.getElem?_eq_getElem (by omega)
 exact ⟨l[v.toNat], p + 1, by simp only [iC7, hv, Option.bind_some, hx], by omega, by omega, List.getElem_mem _⟩
theorem td7 : Drw hs7 2 fun _ => True := fun b p hb h0 hp => by
 obtain ⟨x, p1, h1, a1, b1, _⟩ := bN7 (n := 4) b p hb h0 (by omega)
 obtain ⟨y, p2, h2, a2, b2, _⟩ := r37 (l := [0, 1, 2, 5]) (by simp) b p1 hb (by omega) (by omega)
 refine ⟨⟨x, y⟩, p2, ?_, by omega, by omega, trivial⟩
 unfold hs7
 simp only at h1 h2
 simp only [h1, Option.bind_some, h2]
theorem Fs7 (a c : Int) : ∃ v, ru7 a c = some v := by
 unfold ru7
 split <;> exact ⟨_, rfl⟩
theorem Mn7 {p : Bool} {A B : Option Bool} (ha : ∃ q, A = some q) (hb : ∃ q, B = some q) : ∃ q, (if p = true then A else B) = some q := by
 split
 ·exact ha
 ·exact hb
theorem gJ7 (q : Int) (a : Rd) (x : Int × Int) (hb : a.b.length ≤ 2000) : ∀ (m n : Nat) (i p : Int) (pts : List Pt), m < n → 0 ≤ i → i + m = 12 → (pts.length : Int) ≤ i → 0 ≤ p → p + 2 * m ≤ 100000 → ∃ p' pts', dI7 q a x n i p pts = some (p', pts') ∧ p ≤ p' ∧ p' ≤ p + 2 * m ∧ pts'.length ≤ 12
 | _, 0, _, _, _, h, _, _, _, _, _ => by omega
 | 0, n + 1, i, p, pts, h, h0, hi, hl, hp, hk => by
  refine ⟨p, pts, ?_, by omega, by omega, by omega⟩
  unfold dI7
  rw [if_neg (by simp; omega)]
 | m + 1, n + 1, i, p, pts, h, h0, hi, hl, hp, hk => by
  unfold dI7
  rw [if_pos (by simp; omega)]
  obtain ⟨w, hw⟩ := Fs7 q 6
  rw [hw, Option.bind_some]
  by_cases hlt : (pts.length : Int) < w
  ·rw [if_pos (by simpa using hlt)]
   obtain ⟨t, p1, h1, a1, b1, _⟩ := td7 a.b p hb hp (by omega)
   rw [h1, Option.bind_some]
   simp only
   have hq : ∃ z, (if ((pts.length : Int) == 0) = true then (some true) else ((idx pts (IntKind.i64.wrap ((pts.length : Int) - 1))).bind fun x130 => if (!((x130.x == t.x) && ((x130.y == t.y) && true))) = true then (if (x.1 != 3) = true then (some true) else ((idx pts 0).bind fun x132 => some (!((x132.x == t.x) && ((x132.y == t.y) && true))))) else (some false))) = some z := by
    by_cases hz : pts.length = 0
    ·exact ⟨true, by rw [if_pos (by simp [hz])]⟩
    ·rw [if_neg (by simpa using hz)]
     have e : IntKind.i64.wrap ((pts.length : Int) - 1) = ((pts.length - 1 : Nat) : Int) := cd7 (by omega) (by omega)
     obtain ⟨y, hy⟩ := gp7 (xs := pts) (i := pts.length - 1) (by omega)
     obtain ⟨z, hz0⟩ := gp7 (xs := pts) (i := 0) (by omega)
     have hz1 : idx pts 0 = some z := by rw [show (0 : Int) = ((0 : Nat) : Int) from rfl, ag7]; exact hz0
     rw [e, ag7, hy, Option.bind_some]
     refine Mn7 (Mn7 ⟨_, rfl⟩ ?_) ⟨_, rfl⟩
     rw [hz1]
     exact ⟨_, rfl⟩
   obtain ⟨z, hz⟩ := hq
   rw [hz, Option.bind_some, aN7 (n := i + 1) (by omega) (by omega)]
   by_cases hzz : z = true
   ·rw [if_pos hzz, if_pos (aa7 (by simp; omega))]
    obtain ⟨p', pts', g1, g2, g3, g4⟩ := gJ7 q a x hb m n (i + 1) p1 (pts ++ [t]) (by omega) (by omega) (by omega) (by simp; omega) (by omega) (by omega)
    exact ⟨p', pts', g1, by omega, by omega, g4⟩
   ·rw [if_neg hzz]
    obtain ⟨p', pts', g1, g2, g3, g4⟩ := gJ7 q a x hb m n (i + 1) p1 pts (by omega) (by omega) (by omega) (by omega) (by omega) (by omega)
    exact ⟨p', pts', g1, by omega, by omega, g4⟩
  ·rw [if_neg (by simpa using hlt)]
   exact ⟨p, pts, rfl, by omega, by omega, by omega⟩
theorem ok7 : Drw oc7 30 fun s => 1 ≤ s.pts.length ∧ s.pts.length ≤ 12 := fun b p hb h0 hp => by
 obtain ⟨k, p1, h1, a1, b1, hk⟩ := r37 (l := [1, 2, 2, 3, 3]) (by simp) b p hb h0 (by omega)
 obtain ⟨w, p2, h2, a2, b2, _⟩ := bN7 (n := 4) b p1 hb (by omega) (by omega)
 unfold oc7
 simp only at h1 h2
 simp only [h1, Option.bind_some, h2]
 have hq : ∃ q, (if (k == 1) = true then some 1 else some (IntKind.i64.wrap (k + w)) : Option Int) = some q := by split <;> exact ⟨_, rfl⟩
 obtain ⟨q, hq⟩ := hq
 rw [hq, Option.bind_some]
 obtain ⟨p3, pts, h3, a3, b3, c3⟩ := gJ7 q ⟨b, p⟩ (k, p1) hb 12 aT7 0 p2 [] (by decide) (by omega) (by omega) (by simp) (by omega) (by omega)
 rw [h3, Option.bind_some]
 simp only
 rw [iN7 (by simp; omega), Option.bind_some]
 by_cases hs : dt7 ⟨k, pts⟩ = true
 ·rw [hs]
  refine ⟨_, p3, rfl, by omega, by omega, ?_, c3⟩
  simp only [dt7, Bool.and_eq_true] at hs
  have h4 := hs.2.2
  simp only
  by_cases e1 : k = 1
  ·rw [if_pos e1] at h4; have := of_decide_eq_true h4; omega
  ·rw [if_neg e1] at h4
   by_cases e2 : k = 2
   ·rw [if_pos e2] at h4; have := of_decide_eq_true h4; omega
   ·rw [if_neg e2] at h4
    by_cases e3 : k = 3
    ·rw [if_pos e3] at h4
     simp only [Bool.and_eq_true, decide_eq_true_eq] at h4
     omega
    ·rw [if_neg e3] at h4
     cases h4
 ·rw [Bool.not_eq_true] at hs
  rw [hs]
  obtain ⟨t, p4, h4, a4, b4, _⟩ := td7 b p3 hb (by omega) (by omega)
  simp only [Bool.not_false, if_true, h4, Option.bind_some]
  exact ⟨_, p4, rfl, by omega, by omega, by simp, by simp⟩
theorem iU7 {α : Type} {f : α} {c1 c2 : α → Bool} {gl : List α → Nat → Bool → List α → Option (Bool × List α)} (h0 : ∀ k v w, gl [] k v w = some (v, w))
  (h1 : ∀ x l k v w, gl (x :: l) k v w = ((if (!v) = true then (if c1 x = true then (if aH7 (w ++ [f]).length = true then some (true, (w ++ [f])) else none) else (some (v, w))) else (some (v, w)) : Option (Bool × (List α)))).bind fun q => if c2 x = true then (if aH7 (q.2 ++ [x]).length = true then gl l (k + 1) q.1 (q.2 ++ [x]) else none) else gl l (k + 1) q.1 q.2) :
  ∀ (l : List α) (k : Nat) (v : Bool) (w : List α), w.length + l.length + (if v then 0 else 1) ≤ 1000000 → ∃ d out, gl l k v w = some (d, out) ∧ out.length + (if d then 0 else 1) ≤ w.length + l.length + (if v then 0 else 1) ∧ ∀ y ∈ out, y ∈ w ∨ y ∈ l ∨ y = f
 | [], k, v, w, hl => ⟨v, w, h0 k v w, by simp, fun y hy => .inl hy⟩
 | x :: l, k, v, w, hl => by
  simp only [List.length_cons] at hl
  rw [h1]
  have hq : ∃ v2 w2, ((if (!v) = true then (if c1 x = true then (if aH7 (w ++ [f]).length = true then some (true, (w ++ [f])) else none) else (some (v, w))) else (some (v, w)) : Option (Bool × (List α)))) = some (v2, w2) ∧ w2.length + (if v2 then 0 else 1) ≤ w.length + (if v then 0 else 1) ∧ ∀ y ∈ w2, y ∈ w ∨ y = f := by
   cases v
   ·simp only [Bool.not_false, if_true]
    by_cases hc : c1 x = true
    ·rw [if_pos hc, if_pos (aa7 (by simp; omega))]
     exact ⟨true, w ++ [f], rfl, by simp, fun y hy => by simpa using hy⟩
    ·rw [if_neg hc]
     exact ⟨false, w, rfl, by simp, fun y hy => .inl hy⟩
   ·exact ⟨true, w, rfl, by simp, fun y hy => .inl hy⟩
  obtain ⟨v2, w2, e, q1, q2⟩ := hq
  rw [e, Option.bind_some]
  have hw2 : w2.length ≤ w.length + 1 := by
   cases v <;> cases v2 <;> simp at q1 <;> omega
  by_cases hc : c2 x = true
  ·rw [if_pos hc, if_pos (aa7 (by simp; omega))]
   obtain ⟨d, out, g1, g2, g3⟩ := iU7 h0 h1 l (k + 1) v2 (w2 ++ [x]) (by
    simp only [List.length_append, List.length_singleton]
    omega)
   refine ⟨d, out, g1, ?_, fun y hy => ?_⟩
   ·simp only [List.length_append, List.length_cons, List.length_singleton, List.length_nil] at g2 ⊢
    omega
   ·rcases g3 y hy with h | h | h
    ·rcases List.mem_append.1 h with h | h
     ·rcases q2 y h with h | h <;> simp [h]
     ·simp at h; simp [h]
    ·simp [h]
    ·simp [h]
  ·rw [if_neg hc]
   obtain ⟨d, out, g1, g2, g3⟩ := iU7 h0 h1 l (k + 1) v2 w2 (by omega)
   refine ⟨d, out, g1, ?_, fun y hy => ?_⟩
   ·simp only [List.length_cons] at g2 ⊢
    omega
   ·rcases g3 y hy with h | h | h
    ·rcases q2 y h with h | h <;> simp [h]
    ·simp [h]
    ·simp [h]
theorem te7 {α : Type} {f : α} {xs : List α} {z : Option (Bool × List α)} (hl : xs.length + 1 ≤ 1048576) (h : ∃ d out, z = some (d, out) ∧ out.length + (if d then 0 else 1) ≤ xs.length + 1 ∧ ∀ y ∈ out, y ∈ xs ∨ y = f) :
  ∃ out, (if aH7 xs.length = true then (z.bind fun q => if (!q.1) = true then (if aH7 (q.2 ++ [f]).length = true then some (q.2 ++ [f]) else none) else some q.2) else none) = some out ∧ out.length ≤ xs.length + 1 ∧ ∀ y ∈ out, y ∈ xs ∨ y = f := by
 obtain ⟨d, out, rfl, h1, h2⟩ := h
 rw [if_pos (aa7 (by omega)), Option.bind_some]
 cases d
 ·simp only [Bool.not_false, if_true]
  simp at h1
  rw [if_pos (aa7 (by simp; omega))]
  exact ⟨_, rfl, by simp; omega, fun y hy => by
   rcases List.mem_append.1 hy with h | h
   ·exact h2 y h
   ·simp at h; exact .inr h⟩
 ·simp at h1
  exact ⟨out, rfl, h1, h2⟩
theorem Ba7 {s : List Feat} {f : Feat} (h : s.length ≤ 1000) : ∃ out, gd7 s f = some out ∧ out.length ≤ s.length + 1 ∧ ∀ y ∈ out, y ∈ s ∨ y = f := by
 unfold gd7
 refine te7 (by omega) ?_
 obtain ⟨d, out, h1, h2, h3⟩ := iU7 (gl := cu7 f) (f := f) (c1 := fun x => !slt x.id f.id) (c2 := fun x => !seq x.id f.id) (fun _ _ _ => rfl) (fun _ _ _ _ _ => rfl) s 0 false [] (by simp; omega)
 exact ⟨d, out, h1, by simpa using h2, fun y hy => by simpa using h3 y hy⟩
theorem mk7 {s : List Feat} {f : Feat} (h : s.length ≤ 1000) : ∃ out, od7 s f = some out ∧ out.length ≤ s.length + 1 ∧ ∀ y ∈ out, y ∈ s ∨ y = f := by
 unfold od7
 refine te7 (by omega) ?_
 obtain ⟨d, out, h1, h2, h3⟩ := iU7 (gl := fP7 f) (f := f) (c1 := fun x => !slt x.id f.id) (c2 := fun x => !seq x.id f.id) (fun _ _ _ => rfl) (fun _ _ _ _ _ => rfl) s 0 false [] (by simp; omega)
 exact ⟨d, out, h1, by simpa using h2, fun y hy => by simpa using h3 y hy⟩
theorem uH7 {s : List Tag} {a b : Str} (h : s.length ≤ 1000) : ∃ out, iw7 s a b = some out ∧ out.length ≤ s.length + 1 ∧ ∀ y ∈ out, y ∈ s ∨ y = ⟨a, b⟩ := by
 unfold iw7
 refine te7 (by omega) ?_
 obtain ⟨d, out, h1, h2, h3⟩ := iU7 (gl := cv7 a b) (f := (⟨a, b⟩ : Tag)) (c1 := fun x => !slt x.key a) (c2 := fun x => !seq x.key a) (fun _ _ _ => rfl) (fun _ _ _ _ _ => rfl) s 0 false [] (by simp; omega)
 exact ⟨d, out, h1, by simpa using h2, fun y hy => by simpa using h3 y hy⟩
def bF (k : Nat) (f : Feat) : Prop := (f.id.size ≤ 7 ∧ f.id.size ≠ 2) ∧ f.shape.pts.length ≤ 20 + k ∧ f.tags.length ≤ 20 + k ∧ ∀ t ∈ f.tags, t.key.size ≤ 7 ∧ t.val.size ≤ 7
def bS (k : Nat) (s : List Feat) : Prop := s.length ≤ 20 + k ∧ ∀ f ∈ s, bF k f
theorem Mo7 {k : Nat} {f : Feat} (h : bF k f) : bF (k + 1) f := ⟨h.1, by have := h.2.1; omega, by have := h.2.2.1; omega, h.2.2.2⟩
theorem jI7 {α : Type} {w : α → Nat} {n : Nat} : ∀ {xs : List α}, (∀ x ∈ xs, w x ≤ n) → h37 w xs ≤ n * xs.length
 | [], h => by simp [h37]
 | x :: xs, h => by
  have h1 := h x (by simp)
  have h2 := jI7 (xs := xs) (n := n) fun y hy => h y (by simp [hy])
  simp only [h37, List.length_cons, Nat.mul_add, Nat.mul_one]
  omega
theorem Q77 {k : Nat} {f : Feat} (h : bF k f) (hk : k ≤ 4) : aZ7 f ≤ 400 := by
 obtain ⟨⟨h1, _⟩, h2, h3, h4⟩ := h
 have := jI7 (w := sO7) (n := 14) (xs := f.tags) fun t ht => by have := h4 t ht; unfold sO7; omega
 unfold aZ7 hk7 wL
 rw [qB7]
 omega
theorem Q87 {k : Nat} {s : List Feat} (h : bS k s) (hk : k ≤ 4) : wL aZ7 s ≤ 10000 := by
 have h1 := h.1
 have := jI7 (w := aZ7) (n := 400) (xs := s) fun f hf => Q77 (h.2 f hf) hk
 unfold wL
 omega
theorem tf7 : Drw l07 1 fun s => s.size ≤ 7 ∧ s.size ≠ 2 := fun b p hb h0 hp => by
 unfold l07
 obtain ⟨x, p1, h1, a1, b1, hx⟩ := r27 (l := _) (List.cons_ne_nil _ _) b p hb h0 hp
 simp only at h1
 rw [h1]
 exact ⟨x, p1, rfl, a1, b1, (by decide : ∀ y ∈ _, y.size ≤ 7 ∧ y.size ≠ 2) x hx⟩
theorem uI7 : Drw oa7 1 fun s => s.size ≤ 7 := fun b p hb h0 hp => by
 unfold oa7
 obtain ⟨x, p1, h1, a1, b1, hx⟩ := r27 (l := _) (List.cons_ne_nil _ _) b p hb h0 hp
 simp only at h1
 rw [h1]
 exact ⟨x, p1, rfl, a1, b1, (by decide : ∀ y ∈ _, y.size ≤ 7) x hx⟩
theorem uJ7 : Drw ob7 1 fun s => s.size ≤ 7 := fun b p hb h0 hp => by
 unfold ob7
 obtain ⟨x, p1, h1, a1, b1, hx⟩ := r27 (l := _) (List.cons_ne_nil _ _) b p hb h0 hp
 simp only at h1
 rw [h1]
 exact ⟨x, p1, rfl, a1, b1, (by decide : ∀ y ∈ _, y.size ≤ 7) x hx⟩
theorem ml7 : Drw l27 1 fun s => s ∈ [(⟨#[109, 97, 105, 110]⟩ : Str), (⟨#[97, 110, 110]⟩ : Str), (⟨#[98, 111, 98]⟩ : Str)] := fun b p hb h0 hp => by
 unfold l27
 obtain ⟨x, p1, h1, a1, b1, hx⟩ := r27 (l := _) (List.cons_ne_nil _ _) b p hb h0 hp
 simp only at h1
 rw [h1]
 exact ⟨x, p1, rfl, a1, b1, hx⟩
abbrev onS : Str := ⟨#[111, 110]⟩
def nt (s : Str) : Prop := s.size ≤ 7 ∧ s ≠ onS
theorem Ft7 {s : Str} (h : (decide (s.size ≤ 7) && !decide (s = onS)) = true) : nt s := by simpa [nt] using h
theorem yG7 : Drw rD7 1 fun s => nt s := fun b p hb h0 hp => by
 unfold rD7
 obtain ⟨x, p1, h1, a1, b1, hx⟩ := r27 (l := _) (List.cons_ne_nil _ _) b p hb h0 hp
 simp only at h1
 rw [h1]
 refine ⟨x, p1, rfl, a1, b1, Ft7 ?_⟩
 simp only [List.mem_cons, List.not_mem_nil, or_false] at hx
 rcases hx with rfl | rfl | rfl <;> decide
theorem yH7 : Drw rv7 33 fun s => s.pts.length ≤ 13 := fun b p hb h0 hp => by
 obtain ⟨s, p1, h1, a1, b1, hs1, hs2⟩ := ok7 b p hb h0 (by omega)
 obtain ⟨k, p2, h2, a2, b2, hk1, hk2⟩ := bN7 (n := (s.pts.length : Int)) b p1 hb (by omega) (by omega)
 obtain ⟨c, p3, h3, a3, b3, _⟩ := bN7 (n := 40) b p2 hb (by omega) (by omega)
 have hk2 := hk2 (by omega)
 unfold rv7
 simp only at h2 h3
 simp only [h1, Option.bind_some, h2, h3]
 obtain ⟨y, hy⟩ := gp7 (xs := s.pts) (i := k.toNat) (by omega)
 have hy' : idx s.pts k = some y := by rw [cn7 hk1]; exact hy
 by_cases c0 : (c == 0) = true
 ·rw [if_pos c0]
  obtain ⟨x, p4, h4, a4, b4, _⟩ := r37 (l := [0, 4, 1, 2, 3]) (by simp) b p3 hb (by omega) (by omega)
  simp only at h4
  rw [h4]
  exact ⟨_, p4, rfl, by omega, by omega, by simp only; omega⟩
 rw [if_neg c0]
 by_cases c1 : (c == 1) = true
 ·rw [if_pos c1]
  obtain ⟨x, p4, h4, a4, b4, _⟩ := r37 (l := [1000, 1001, -1001]) (by simp) b p3 hb (by omega) (by omega)
  simp only at h4
  rw [h4, Option.bind_some, hy']
  exact ⟨_, p4, rfl, by omega, by omega, by simp only [List.length_set]; omega⟩
 rw [if_neg c1]
 by_cases c2 : (c == 2) = true
 ·rw [if_pos c2, cd7 (by omega) (by omega), ag7]
  obtain ⟨z, hz⟩ := gp7 (xs := s.pts) (i := s.pts.length - 1) (by omega)
  rw [hz, Option.bind_some, if_pos (aa7 (by simp; omega))]
  exact ⟨_, p3, rfl, by omega, by omega, by simp; omega⟩
 rw [if_neg c2]
 by_cases c3 : (c == 3) = true
 ·rw [if_pos c3]
  unfold slc
  rw [if_pos ⟨by omega, hk1, by omega⟩]
  exact ⟨_, p3, rfl, by omega, by omega, by simp; omega⟩
 rw [if_neg c3]
 exact ⟨_, p3, rfl, by omega, by omega, by omega⟩
def bT (n : Nat) (ts : List Tag) : Prop := ts.length ≤ n ∧ ∀ t ∈ ts, t.key.size ≤ 7 ∧ t.val.size ≤ 7
theorem mm7 (a : Rd) (hb : a.b.length ≤ 2000) : ∀ (m n : Nat) (i p : Int) (ts : List Tag) (q : Nat), m < n → i = m → bT q ts → q + m ≤ 100 → 0 ≤ p → p + 2 * m ≤ 100000 → m ≤ 100 → ∃ ts' p', ey7 a n i p ts = some (ts', p') ∧ p ≤ p' ∧ p' ≤ p + 2 * m ∧ bT (q + m) ts'
 | _, 0, _, _, _, _, h, _, _, _, _, _, _ => by omega
 | 0, n + 1, i, p, ts, q, h, hi, ht, hq, hp, hk, hm => by
  unfold ey7
  rw [if_neg (by simp; omega)]
  exact ⟨ts, p, rfl, by omega, by omega, ht⟩
 | m + 1, n + 1, i, p, ts, q, h, hi, ht, hq, hp, hk, hm => by
  unfold ey7
  rw [if_pos (by simp; omega)]
  obtain ⟨k, p1, h1, a1, b1, c1⟩ := uI7 a.b p hb hp (by omega)
  obtain ⟨v, p2, h2, a2, b2, c2⟩ := uJ7 a.b p1 hb (by omega) (by omega)
  obtain ⟨o, h3, h4, h5⟩ := uH7 (s := ts) (a := k) (b := v) (by have := ht.1; omega)
  simp only [h1, Option.bind_some, h2, h3]
  rw [aN7 (by omega) (by omega)]
  have ht1 : ts.length ≤ q := ht.1
  have ho : o.length ≤ q + 1 := by omega
  obtain ⟨ts', p', g1, g2, g3, g4⟩ := mm7 a hb m n (i - 1) p2 o (q + 1) (by omega) (by omega) ⟨ho, fun t hh => by
   rcases h5 t hh with h | h
   ·exact ht.2 t h
   ·subst h; exact ⟨c1, c2⟩⟩ (by omega) (by omega) (by omega) (by omega)
  exact ⟨ts', p', g1, by omega, by omega, by rw [show q + (m + 1) = q + 1 + m by omega]; exact g4⟩
theorem mn7 {id : Str} (hid : id.size ≤ 7 ∧ id.size ≠ 2) : Drw (fun r => l17 r id) 40 fun f => (f.id.size ≤ 7 ∧ f.id.size ≠ 2) ∧ f.shape.pts.length ≤ 12 ∧ bT 4 f.tags := fun b p hb h0 hp => by
 obtain ⟨s, p1, h1, a1, b1, hs1, hs2⟩ := ok7 b p hb h0 (by omega)
 obtain ⟨k, p2, h2, a2, b2, hk1, hk2⟩ := bN7 (n := 4) b p1 hb (by omega) (by omega)
 have hk2 := hk2 (by omega)
 simp only [l17]
 simp only at h2
 simp only [h1, Option.bind_some, h2]
 obtain ⟨ts, p3, h3, a3, b3, c3⟩ := mm7 ⟨b, p⟩ hb k.toNat aT7 k p2 [] 0 (by unfold aT7; omega) (by omega) ⟨by simp, by simp⟩ (by omega) (by omega) (by omega) (by omega)
 rw [h3]
 exact ⟨_, p3, rfl, by omega, by omega, hid, hs2, (show ts.length ≤ 4 by have h := c3.1; have h' : ts.length ≤ 0 + k.toNat := h; omega), c3.2⟩
theorem yI7 : Drw rw7 80 fun f => bF 0 f := fun b p hb h0 hp => by
 obtain ⟨i, p1, h1, a1, b1, hi⟩ := tf7 b p hb h0 (by omega)
 obtain ⟨f, p2, h2, a2, b2, f1, f2, f3, f4⟩ := mn7 hi b p1 hb (by omega) (by omega)
 obtain ⟨c, p3, h3, a3, b3, _⟩ := bN7 (n := 40) b p2 hb (by omega) (by omega)
 unfold rw7
 simp only at h2 h3
 simp only [h1, Option.bind_some, h2, h3]
 by_cases c0 : (c == 0) = true
 ·rw [if_pos c0]
  obtain ⟨x, p4, h4, a4, b4, hx⟩ := r27 (l := [(⟨#[]⟩ : Str), (⟨#[65]⟩ : Str), (⟨#[97, 98, 99, 100, 101, 102, 103]⟩ : Str)]) (by simp) b p3 hb (by omega) (by omega)
  simp only at h4
  rw [h4]
  exact ⟨_, p4, rfl, by omega, by omega, (by decide : ∀ y ∈ [(⟨#[]⟩ : Str), (⟨#[65]⟩ : Str), (⟨#[97, 98, 99, 100, 101, 102, 103]⟩ : Str)], y.size ≤ 7 ∧ y.size ≠ 2) x hx, by simp only; omega, by simp only; omega, f4⟩
 rw [if_neg c0]
 by_cases c1 : (c == 1) = true
 ·rw [if_pos c1]
  obtain ⟨x, p4, h4, a4, b4, hx⟩ := yH7 b p3 hb (by omega) (by omega)
  rw [h4]
  exact ⟨_, p4, rfl, by omega, by omega, f1, by simp only; omega, by simp only; omega, f4⟩
 rw [if_neg c1]
 by_cases c2 : (c == 2) = true
 ·rw [if_pos c2, if_pos (aa7 (by simp; omega))]
  refine ⟨_, p3, rfl, by omega, by omega, f1, by simp only; omega, by simp; omega, fun t ht => ?_⟩
  rcases List.mem_append.1 ht with h | h
  ·exact f4 t h
  ·simp only [List.mem_singleton] at h; subst h; exact ⟨by decide, by decide⟩
 rw [if_neg c2]
 by_cases c3 : (c == 3) = true
 ·rw [if_pos c3]
  obtain ⟨x, p4, h4, a4, b4, hx⟩ := r27 (l := [(⟨#[]⟩ : Str), (⟨#[66]⟩ : Str)]) (by simp) b p3 hb (by omega) (by omega)
  simp only at h4
  rw [h4, Option.bind_some, if_pos (aa7 (by simp; omega))]
  refine ⟨_, p4, rfl, by omega, by omega, f1, by simp only; omega, by simp; omega, fun t ht => ?_⟩
  rcases List.mem_append.1 ht with h | h
  ·exact f4 t h
  ·simp only [List.mem_singleton] at h; subst h; exact ⟨(by decide : (⟨#[122, 122]⟩ : Str).size ≤ 7), (by decide : ∀ y ∈ [(⟨#[]⟩ : Str), (⟨#[66]⟩ : Str)], y.size ≤ 7) x hx⟩
 rw [if_neg c3]
 exact ⟨_, p3, rfl, by omega, by omega, f1, by simp only; omega, by simp only; omega, f4⟩
theorem kp7 (a : Rd) (hb : a.b.length ≤ 2000) : ∀ (m n : Nat) (i p : Int) (s : List Feat), m < n → i = m → (s.length + m ≤ 20 ∧ ∀ f ∈ s, bF 0 f) → 0 ≤ p → p + 41 * m ≤ 100000 → ∃ s' p', ez7 a n i p s = some (s', p') ∧ p ≤ p' ∧ p' ≤ p + 41 * m ∧ s'.length ≤ s.length + m ∧ ∀ f ∈ s', bF 0 f
 | _, 0, _, _, _, h, _, _, _, _ => by omega
 | 0, n + 1, i, p, s, h, hi, hs, hp, hk => by
  unfold ez7
  rw [if_neg (by simp; omega)]
  exact ⟨s, p, rfl, by omega, by omega, by omega, hs.2⟩
 | m + 1, n + 1, i, p, s, h, hi, hs, hp, hk => by
  unfold ez7
  rw [if_pos (by simp; omega)]
  obtain ⟨k, p1, h1, a1, b1, c1⟩ := tf7 a.b p hb hp (by omega)
  obtain ⟨f, p2, h2, a2, b2, f1, f2, f3, f4⟩ := mn7 c1 a.b p1 hb (by omega) (by omega)
  have hs1 := hs.1
  obtain ⟨o, h3, h4, h5⟩ := mk7 (s := s) (f := f) (by omega)
  simp only at h2
  simp only [h1, Option.bind_some, h2, h3]
  rw [aN7 (by omega) (by omega)]
  obtain ⟨s', p', g1, g2, g3, g4, g5⟩ := kp7 a hb m n (i - 1) p2 o (by omega) (by omega) ⟨by omega, fun t hh => by
   rcases h5 t hh with h | h
   ·exact hs.2 t h
   ·subst h; exact ⟨f1, by omega, by omega, f4⟩⟩ (by omega) (by omega)
  exact ⟨s', p', g1, by omega, by omega, by omega, g5⟩
theorem ol7 : Drw oe7 170 fun s => s.length ≤ 4 ∧ ∀ f ∈ s, bF 0 f := fun b p hb h0 hp => by
 obtain ⟨k, p2, h2, a2, b2, hk1, hk2⟩ := bN7 (n := 5) b p hb (by omega) (by omega)
 have hk2 := hk2 (by omega)
 unfold oe7
 simp only at h2
 simp only [h2, Option.bind_some]
 obtain ⟨s, p3, h3, a3, b3, c3, d3⟩ := kp7 ⟨b, p⟩ hb k.toNat aT7 k p2 [] (by unfold aT7; omega) (by omega) ⟨by simp; omega, by simp⟩ (by omega) (by omega)
 rw [h3]
 simp only [List.length_nil] at c3
 exact ⟨s, p3, rfl, by omega, by omega, by omega, d3⟩
theorem mo7 : ∀ (m n : Nat) (i : Int) (s : List Feat), m < n → 0 ≤ i → i + m = 9 → (s.length + m ≤ 20 ∧ ∀ f ∈ s, bF 0 f) → ∃ s', eA7 n i s = some s' ∧ s'.length ≤ s.length + m ∧ ∀ f ∈ s', bF 0 f
 | _, 0, _, _, h, _, _, _ => by omega
 | 0, n + 1, i, s, h, h0, hi, hs => by
  unfold eA7
  rw [if_neg (by simp; omega)]
  exact ⟨s, rfl, by omega, hs.2⟩
 | m + 1, n + 1, i, s, h, h0, hi, hs => by
  unfold eA7
  rw [if_pos (by simp; omega), aN7 (by omega) (by omega)]
  have hs1 := hs.1
  have hz : (⟨#[113, 114, 115, 116, 117, 118, 119, 120, 121, 122]⟩ : Str).size = 10 := by decide
  have hx : ∃ x : Str, C77 (⟨#[113, 114, 115, 116, 117, 118, 119, 120, 121, 122]⟩ : Str) i (i + 1) = some x ∧ x.size ≤ 7 ∧ x.size ≠ 2 := by
   unfold C77
   rw [if_pos ⟨h0, by omega, by rw [hz]; omega⟩]
   refine ⟨_, rfl, ?_⟩
   rw [ByteArray.size_extract, hz]
   omega
  obtain ⟨x, hx1, hx2⟩ := hx
  obtain ⟨o, h3, h4, h5⟩ := mk7 (s := s) (f := ⟨x, ⟨1, [⟨0, 0⟩]⟩, []⟩) (by omega)
  rw [hx1, Option.bind_some, h3, Option.bind_some]
  obtain ⟨s', g1, g2, g3⟩ := mo7 m n (i + 1) o (by omega) (by omega) (by omega) ⟨by omega, fun t hh => by
   rcases h5 t hh with h | h
   ·exact hs.2 t h
   ·subst h; exact ⟨hx2, by simp, by simp, by simp⟩⟩
  exact ⟨s', g1, by omega, g3⟩
theorem yJ7 : Drw rx7 260 fun s => bS 0 s := fun b p hb h0 hp => by
 obtain ⟨s, p1, h1, a1, b1, hs1, hs2⟩ := ol7 b p hb h0 (by omega)
 obtain ⟨c, p2, h2, a2, b2, _⟩ := bN7 (n := 40) b p1 hb (by omega) (by omega)
 unfold rx7
 simp only at h2
 simp only [h1, Option.bind_some, h2]
 by_cases c0 : (c == 0) = true
 ·rw [if_pos c0]
  obtain ⟨f, p3, h3, a3, b3, hf⟩ := yI7 b p2 hb (by omega) (by omega)
  rw [h3, Option.bind_some, if_pos (aa7 (by simp; omega))]
  refine ⟨_, p3, rfl, by omega, by omega, by simp; omega, fun t ht => ?_⟩
  rcases List.mem_append.1 ht with h | h
  ·exact hs2 t h
  ·simp only [List.mem_singleton] at h; subst h; exact hf
 rw [if_neg c0]
 by_cases c1 : (c == 1) = true
 ·rw [if_pos c1, if_pos (aa7 (by simp; omega))]
  exact ⟨_, p2, rfl, by omega, by omega, by simp; omega, fun t ht => by rcases List.mem_append.1 ht with h | h <;> exact hs2 t h⟩
 rw [if_neg c1]
 by_cases c2 : (c == 2) = true
 ·rw [if_pos c2]
  obtain ⟨s', g1, g2, g3⟩ := mo7 9 aT7 0 s (by decide) (by omega) (by omega) ⟨by omega, hs2⟩
  rw [g1]
  exact ⟨s', p2, rfl, by omega, by omega, by omega, g3⟩
 rw [if_neg c2]
 exact ⟨s, p2, rfl, by omega, by omega, by omega, hs2⟩
theorem Bb7 {s : aL7} {k : Nat} (hs : s.pts.length ≤ 20 + k) (hk : k ≤ 4) : Drw (fun r => rB7 r s) 4 fun z => z.pts.length ≤ 20 + (k + 1) := fun b p hb h0 hp => by
 simp only [rB7]
 by_cases hz : s.pts.length = 0
 ·rw [if_pos (by simp [hz])]
  exact ⟨s, p, rfl, by omega, by omega, by omega⟩
 rw [if_neg (by simpa using hz)]
 obtain ⟨x, p1, h1, a1, b1, hx1, hx2⟩ := bN7 (n := (s.pts.length : Int)) b p hb h0 (by omega)
 have hx2 := hx2 (by omega)
 obtain ⟨c, p2, h2, a2, b2, _⟩ := bN7 (n := 3) b p1 hb (by omega) (by omega)
 obtain ⟨t, p3, h3, a3, b3, _⟩ := td7 b p2 hb (by omega) (by omega)
 simp only at h1 h2
 have e1 : slc s.pts 0 x = some (s.pts.take x.toNat) := by
  unfold slc
  rw [if_pos ⟨by omega, hx1, by omega⟩]
  simp
 have e2 : slc s.pts x (s.pts.length : Int) = some (s.pts.drop x.toNat) := by
  unfold slc
  rw [if_pos ⟨hx1, by omega, by omega⟩]
  simp
 have e3 : slc s.pts (x + 1) (s.pts.length : Int) = some (s.pts.drop (x.toNat + 1)) := by
  unfold slc
  rw [if_pos ⟨by omega, by omega, by omega⟩]
  have : (x + 1).toNat = x.toNat + 1 := by omega
  simp [this]
 rw [h1, Option.bind_some, e1, Option.bind_some, if_pos (aa7 (by simp; omega)), h2, Option.bind_some]
 have key : ∃ q p4, (if (c == 0) = true then ((hs7 (⟨b, p2⟩ : Rd)).bind fun x43 => if aH7 (([] ++ s.pts.take x.toNat) ++ ([x43.1] : (List Pt))).length = true then (slc s.pts x (s.pts.length : Int)).bind fun x49 => if aH7 ((([] ++ s.pts.take x.toNat) ++ ([x43.1] : (List Pt))) ++ x49).length = true then some (((([] ++ s.pts.take x.toNat) ++ ([x43.1] : (List Pt))) ++ x49), x43.2) else none else none) else (if (c == 1) = true then ((slc s.pts (IntKind.i64.wrap (x + 1)) (s.pts.length : Int)).bind fun x54 => if aH7 (([] ++ s.pts.take x.toNat) ++ x54).length = true then some ((([] ++ s.pts.take x.toNat) ++ x54), p2) else none) else ((hs7 (⟨b, p2⟩ : Rd)).bind fun x59 => if aH7 (([] ++ s.pts.take x.toNat) ++ ([x59.1] : (List Pt))).length = true then (slc s.pts (IntKind.i64.wrap (x + 1)) (s.pts.length : Int)).bind fun x65 => if aH7 ((([] ++ s.pts.take x.toNat) ++ ([x59.1] : (List Pt))) ++ x65).length = true then some (((([] ++ s.pts.take x.toNat) ++ ([x59.1] : (List Pt))) ++ x65), x59.2) else none else none)) : Option ((List Pt) × Int)) = some (q, p4) ∧ q.length ≤ s.pts.length + 1 ∧ p2 ≤ p4 ∧ p4 ≤ p2 + 2 := by
  rw [aN7 (n := x + 1) (by omega) (by omega)]
  split
  ·rw [h3, Option.bind_some, if_pos (aa7 (by simp; omega)), e2, Option.bind_some, if_pos (aa7 (by simp; omega))]
   exact ⟨_, _, rfl, by simp; omega, a3, b3⟩
  ·split
   ·rw [e3, Option.bind_some, if_pos (aa7 (by simp; omega))]
    exact ⟨_, _, rfl, by simp; omega, by omega, by omega⟩
   ·rw [h3, Option.bind_some, if_pos (aa7 (by simp; omega)), e3, Option.bind_some, if_pos (aa7 (by simp; omega))]
    exact ⟨_, _, rfl, by simp; omega, a3, b3⟩
 obtain ⟨q, p4, g1, g2, g3, g4⟩ := key
 rw [g1, Option.bind_some, iN7 (by simp only; omega), Option.bind_some]
 by_cases ho : (!dt7 ⟨s.kind, q⟩) = true
 ·rw [if_pos ho]
  exact ⟨s, p4, rfl, by omega, by omega, by omega⟩
 ·rw [if_neg ho]
  exact ⟨⟨s.kind, q⟩, p4, rfl, by omega, by omega, by simp only; omega⟩
theorem Mp7 {α : Type} {p : α → Nat → Bool} {l : List α} {k : Nat} (h : a07 p l k = true) {x : α} (hx : x ∈ l) : ∃ j, p x j = true := by
 obtain ⟨j, hj⟩ := List.getElem?_of_mem hx
 exact ⟨_, cf7 h j x hj⟩
theorem ck7 {s : Str} (h : bd7 s = true) : s.size ≤ 7 := by
 simp only [bd7, Bool.and_eq_true, decide_eq_true_eq] at h
 omega
theorem yK7 {s : List Feat} (hn : ∀ f ∈ s, f.id.size ≠ 2) (h : a87 s = true) : bS 0 s := by
 simp only [a87, Bool.and_eq_true, decide_eq_true_eq] at h
 refine ⟨by omega, fun f hf => ?_⟩
 obtain ⟨j, hj⟩ := Mp7 h.1 hf
 simp only [Bool.and_eq_true] at hj
 have h1 := hj.1
 simp only [bM7, dt7, qE7, Bool.and_eq_true, decide_eq_true_eq] at h1
 refine ⟨⟨ck7 h1.1, hn f hf⟩, by omega, by omega, fun t ht => ?_⟩
 obtain ⟨i, hi⟩ := Mp7 h1.2.2.1 ht
 simp only [Bool.and_eq_true] at hi
 exact ⟨ck7 hi.1, ck7 hi.2.1⟩
theorem pw7 {c : Feat → Bool} {gl : List Feat → Nat → List Feat → Option (List Feat)} (h0 : ∀ k v, gl [] k v = some v) (h1 : ∀ x l k v, gl (x :: l) k v = if c x = true then (if aH7 (v ++ [x]).length = true then gl l (k + 1) (v ++ [x]) else none) else gl l (k + 1) v) : ∀ (l : List Feat) (k : Nat) (v : List Feat), v.length + l.length ≤ 1000 → ∃ o, gl l k v = some o ∧ o.length ≤ v.length + l.length ∧ ∀ y ∈ o, y ∈ v ∨ y ∈ l
 | [], k, v, hl => ⟨v, h0 k v, by simp, fun y hy => .inl hy⟩
 | x :: l, k, v, hl => by
  simp only [List.length_cons] at hl
  rw [h1]
  by_cases hc : c x = true
  ·rw [if_pos hc, if_pos (aa7 (by simp; omega))]
   obtain ⟨o, g1, g2, g3⟩ := pw7 h0 h1 l (k + 1) (v ++ [x]) (by simp; omega)
   refine ⟨o, g1, by simp only [List.length_append, List.length_cons, List.length_nil] at g2 ⊢; omega, fun y hy => ?_⟩
   rcases g3 y hy with h | h
   ·rcases List.mem_append.1 h with h | h
    ·exact .inl h
    ·simp at h; simp [h]
   ·simp [h]
  ·rw [if_neg hc]
   obtain ⟨o, g1, g2, g3⟩ := pw7 h0 h1 l (k + 1) v (by omega)
   exact ⟨o, g1, by simp only [List.length_cons]; omega, fun y hy => (g3 y hy).imp id fun h => by simp [h]⟩
theorem Bc7 {s : List Feat} {id : Str} (h : s.length ≤ 1000) : ∃ o, rA7 s id = some o ∧ o.length ≤ s.length ∧ ∀ y ∈ o, y ∈ s := by
 unfold rA7
 rw [if_pos (aa7 (by omega))]
 obtain ⟨o, h1, h2, h3⟩ := pw7 (gl := fQ7 id) (c := fun x => !seq x.id id) (fun _ _ => rfl) (fun _ _ _ _ => rfl) s 0 [] (by simp; omega)
 rw [h1]
 exact ⟨o, rfl, by simpa using h2, fun y hy => by simpa using h3 y hy⟩
theorem iV7 {α : Type} {p : α → Bool} : ∀ {l : List α} {k : Nat}, aM7 p l k = -1 ∨ (k : Int) ≤ aM7 p l k ∧ aM7 p l k < (k + l.length : Nat)
 | [], k => .inl rfl
 | x :: l, k => by
  simp only [aM7]
  split
  ·exact .inr ⟨by omega, by simp only [List.length_cons]; omega⟩
  ·rcases iV7 (p := p) (l := l) (k := k + 1) with h | h
   ·exact .inl h
   ·exact .inr ⟨by omega, by simp only [List.length_cons]; omega⟩
theorem yL7 {s : List Feat} {id : Str} (h : s.length ≤ 1000) : ∃ v, ka7 s id = some v ∧ (v < 0 ∨ 0 ≤ v ∧ v < s.length) := by
 unfold ka7
 rw [if_pos (aa7 (by omega))]
 refine ⟨_, mX7 (gl := eg7 id) (p := fun x => seq x.id id) (ok := fun _ => True) (fun _ => rfl) (fun _ _ _ _ => rfl) s 0 (fun _ _ => trivial), ?_⟩
 rcases iV7 (p := fun x : Feat => seq x.id id) (l := s) (k := 0) with h | h
 ·left; omega
 ·right; simpa using h
theorem hW7 (a : Rd) (hb : a.b.length ≤ 2000) : ∀ (m n : Nat) (s : List Feat) (i p : Int) (k : Nat), m < n → i = m → bS k s → k + m ≤ 3 → 0 ≤ p → p + 50 * m ≤ 100000 → ∃ s' p', cw7 a n s i p = some (s', p') ∧ p ≤ p' ∧ p' ≤ p + 50 * m ∧ bS (k + m) s'
 | _, 0, _, _, _, _, h, _, _, _, _, _ => by omega
 | 0, n + 1, s, i, p, k, h, hi, hs, hk, hp, hq => by
  unfold cw7
  rw [if_neg (by simp; omega)]
  exact ⟨s, p, rfl, by omega, by omega, hs⟩
 | m + 1, n + 1, s, i, p, k, h, hi, hs, hk, hp, hq => by
  unfold cw7
  rw [if_pos (by simp; omega), aN7 (n := i - 1) (by omega) (by omega)]
  have hs1 : s.length ≤ 20 + k := hs.1
  have step : ∀ (f : Feat) (p1 : Int), bF (k + 1) f → p ≤ p1 → p1 ≤ p + 50 → ∃ o s' p', gd7 s f = some o ∧ cw7 a n o (i - 1) p1 = some (s', p') ∧ p ≤ p' ∧ p' ≤ p + 50 * (m + 1) ∧ bS (k + (m + 1)) s' := fun f p1 hf q1 q2 => by
   obtain ⟨o, o1, o2, o3⟩ := Ba7 (s := s) (f := f) (by omega)
   obtain ⟨s', p', g1, g2, g3, g4⟩ := hW7 a hb m n o (i - 1) p1 (k + 1) (by omega) (by omega) ⟨by omega, fun t ht => by
    rcases o3 t ht with h | h
    ·exact Mo7 (hs.2 t h)
    ·subst h; exact hf⟩ (by omega) (by omega) (by omega)
   exact ⟨o, s', p', o1, g1, by omega, by omega, by rw [show k + (m + 1) = k + 1 + m by omega]; exact g4⟩
  obtain ⟨id, p1, h1, a1, b1, c1⟩ := tf7 a.b p hb hp (by omega)
  obtain ⟨v, h2, hv⟩ := yL7 (s := s) (id := id) (by omega)
  rw [h1, Option.bind_some]
  simp only
  rw [h2, Option.bind_some]
  by_cases hneg : v < 0
  ·rw [if_pos (by simpa using hneg)]
   obtain ⟨f, p2, h3, a3, b3, f1, f2, f3, f4⟩ := mn7 c1 a.b p1 hb (by omega) (by omega)
   simp only at h3
   obtain ⟨o, s', p', e1, e2, e3, e4, e5⟩ := step f p2 ⟨f1, by omega, by omega, f4⟩ (by omega) (by omega)
   simp only [h3, Option.bind_some, e1]
   exact ⟨s', p', e2, e3, by omega, e5⟩
  ·rw [if_neg (by simpa using hneg)]
   have hv := hv.resolve_left hneg
   obtain ⟨c, p2, h3, a3, b3, _⟩ := bN7 (n := 4) a.b p1 hb (by omega) (by omega)
   simp only at h3
   rw [h3, Option.bind_some]
   simp only
   obtain ⟨f, hf⟩ := gp7 (xs := s) (i := v.toNat) (by omega)
   have hf' : idx s v = some f := by rw [cn7 hv.1]; exact hf
   have hbf := hs.2 f (List.mem_of_getElem? hf)
   by_cases c0 : (c == 0) = true
   ·rw [if_pos c0]
    obtain ⟨o, o1, o2, o3⟩ := Bc7 (s := s) (id := id) (by omega)
    rw [o1, Option.bind_some]
    obtain ⟨s', p', g1, g2, g3, g4⟩ := hW7 a hb m n o (i - 1) p2 (k + 1) (by omega) (by omega) ⟨by omega, fun t ht => Mo7 (hs.2 t (o3 t ht))⟩ (by omega) (by omega) (by omega)
    exact ⟨s', p', g1, by omega, by omega, by rw [show k + (m + 1) = k + 1 + m by omega]; exact g4⟩
   rw [if_neg c0]
   obtain ⟨c2, p3, h4, a4, b4, _⟩ := bN7 (n := 2) a.b p2 hb (by omega) (by omega)
   simp only at h4
   rw [h4, Option.bind_some]
   simp only
   have hcp : ho7 f = some f := kX7 (by have := Q77 hbf (by omega); omega)
   by_cases c1' : (c2 == 0) = true
   ·rw [if_pos c1']
    obtain ⟨x, p4, h5, a5, b5, x1⟩ := uI7 a.b p3 hb (by omega) (by omega)
    obtain ⟨y, p5, h6, a6, b6, y1⟩ := uJ7 a.b p4 hb (by omega) (by omega)
    obtain ⟨ts, t1, t2, t3⟩ := uH7 (s := f.tags) (a := x) (b := y) (by have := hbf.2.2.1; omega)
    obtain ⟨o, s', p', e1, e2, e3, e4, e5⟩ := step ⟨f.id, f.shape, ts⟩ p5 ⟨hbf.1, by have := hbf.2.1; simp only; omega, by have := hbf.2.2.1; simp only; omega, fun t ht => by
     rcases t3 t ht with h | h
     ·exact hbf.2.2.2 t h
     ·subst h; exact ⟨x1, y1⟩⟩ (by omega) (by omega)
    simp only [hf', Option.bind_some, hcp, h5, h6, t1, e1]
    exact ⟨s', p', e2, e3, by omega, e5⟩
   ·rw [if_neg c1']
    obtain ⟨z, p4, h5, a5, b5, z1⟩ := Bb7 (s := f.shape) (k := k) hbf.2.1 (by omega) a.b p3 hb (by omega) (by omega)
    simp only at h5
    obtain ⟨o, s', p', e1, e2, e3, e4, e5⟩ := step ⟨f.id, z, f.tags⟩ p4 ⟨hbf.1, z1, by have := hbf.2.2.1; simp only; omega, hbf.2.2.2⟩ (by omega) (by omega)
    simp only [hf', Option.bind_some, hcp]
    rw [h5]
    simp only [Option.bind_some, e1]
    exact ⟨s', p', e2, e3, by omega, e5⟩
theorem yM7 {s : List Feat} (hs : bS 0 s) : Drw (fun r => rC7 r s) 151 fun o => bS 0 o := fun b p hb h0 hp => by
 obtain ⟨c, p1, h1, a1, b1, c1, c2⟩ := bN7 (n := 3) b p hb h0 (by omega)
 have c2 := c2 (by omega)
 simp only [rC7]
 simp only at h1
 rw [h1, Option.bind_some]
 simp only
 rw [aN7 (by omega) (by omega)]
 obtain ⟨o, p2, h2, a2, b2, d2⟩ := hW7 ⟨b, p⟩ hb (1 + c).toNat aT7 s (1 + c) p1 0 (by unfold aT7; omega) (by omega) hs (by omega) (by omega) (by omega)
 have hw : bS 3 o := by
  have h3 : o.length ≤ 20 + (0 + (1 + c).toNat) := d2.1
  exact ⟨by omega, fun f hf => by
   obtain ⟨q1, q2, q3, q4⟩ := d2.2 f hf
   exact ⟨q1, by omega, by omega, q4⟩⟩
 rw [h2, Option.bind_some, e67 (by have := Q87 hw (by omega); simp only; omega), Option.bind_some]
 by_cases ho : a87 o = true
 ·simp only [ho]
  exact ⟨o, p2, rfl, by omega, by omega, yK7 (fun f hf => (d2.2 f hf).1.2) ho⟩
 ·rw [Bool.not_eq_true] at ho
  simp only [ho]
  exact ⟨s, p2, rfl, by omega, by omega, hs⟩
def nm3 : List Str := [(⟨#[109, 97, 105, 110]⟩ : Str), (⟨#[97, 110, 110]⟩ : Str), (⟨#[98, 111, 98]⟩ : Str)]
theorem uK7 {s : Str} (h : s ∈ nm3) : s.size ≤ 7 := (by decide : ∀ y ∈ nm3, y.size ≤ 7) s h
def bC0 (c : Commit) : Prop := c.up.length ≤ 3 ∧ bS 0 c.sheet ∧ c.note.size ≤ 7
def bC (c : Commit) : Prop := c.up.length ≤ 3 ∧ bS 0 c.sheet ∧ nt c.note
def bR (r : am7) : Prop := (1 ≤ r.commits.length ∧ r.commits.length ≤ 12) ∧ (1 ≤ r.heads.length ∧ r.heads.length ≤ 5) ∧ (∀ c ∈ r.commits, bC c) ∧ ∀ h ∈ r.heads, h.name ∈ nm3
def gR (r : am7) : Prop := bR r ∧ r.heads.length ≤ 4 ∧ (∀ h ∈ r.heads, 0 ≤ h.at_ ∧ h.at_ < (r.commits.length : Int)) ∧ ∀ c ∈ r.commits, c.up.length ≤ 2
theorem Qm7 {c : Commit} (h : bC0 c) : aA7 c ≤ 10020 := by
 obtain ⟨h1, h2, h3⟩ := h
 have := Q87 h2 (by omega)
 unfold aA7
 simp only [wL, qB7] at this ⊢
 omega
theorem Q97 {c : Commit} (h : bC c) : aA7 c ≤ 10020 := Qm7 ⟨h.1, h.2.1, h.2.2.1⟩
theorem Qn7 {r : am7} (h : bR r) : ba7 r ≤ 200000 := by
 obtain ⟨h1, h2, h3, h4⟩ := h
 have e1 := jI7 (w := aA7) (n := 10020) (xs := r.commits) fun c hc => Q97 (h3 c hc)
 have e2 := jI7 (w := hS7) (n := 7) (xs := r.heads) fun c hc => by have := uK7 (h4 c hc); unfold hS7; omega
 unfold ba7 wL
 omega
theorem Bd7 {x : am7} {k : Int} {c : Commit} (hx : gR x) (hk0 : 0 ≤ k) (hk : k < x.heads.length) (hc : bC c) (hc2 : c.up.length ≤ 2) (hl : x.commits.length < 12) : ∃ y, ix7 x k c = some y ∧ gR y := by
 have hw := Qn7 hx.1
 obtain ⟨⟨⟨g1, g2⟩, ⟨g3, g4⟩, g5, g6⟩, g7, g8, g9⟩ := hx
 unfold ix7
 rw [kW7 (by unfold ba7 at hw; omega), Option.bind_some]
 obtain ⟨h, hh⟩ := gp7 (xs := x.heads) (i := k.toNat) (by omega)
 have hh' : idx x.heads k = some h := by rw [cn7 hk0]; exact hh
 have hn := g6 h (List.mem_of_getElem? hh)
 have set_ok : ∀ (m : Int) (z : Head), z ∈ x.heads.set k.toNat ⟨h.name, m⟩ → z ∈ x.heads ∨ z = ⟨h.name, m⟩ := fun m z hz => List.mem_or_eq_of_mem_set hz
 rcases iV7 (p := fun y : Commit => decide (y = c)) (l := x.commits) (k := 0) with hf | hf
 ·have e : cl7 x.commits c = -1 := hf
  rw [e, if_pos (by decide), yE7 (by have := Q97 hc; omega), Option.bind_some, if_pos (aa7 (by simp; omega)), hh', Option.bind_some]
  refine ⟨_, rfl, ⟨⟨by simp, by simp; omega⟩, ⟨by simp; omega, by simp; omega⟩, fun d hd => ?_, fun z hz => ?_⟩, by simp; omega, fun z hz => ?_, fun d hd => by
   rcases List.mem_append.1 hd with h | h
   ·exact g9 d h
   ·simp only [List.mem_singleton] at h; subst h; exact hc2⟩
  ·rcases List.mem_append.1 hd with h | h
   ·exact g5 d h
   ·simp only [List.mem_singleton] at h; subst h; exact hc
  ·rcases set_ok _ z hz with h | h
   ·exact g6 z h
   ·subst h; exact hn
  ·rcases set_ok _ z hz with h | h
   ·have := g8 z h; simp only [List.length_append, List.length_singleton]; omega
   ·subst h; simp only [List.length_append, List.length_singleton]; omega
 ·have e : cl7 x.commits c = aM7 (fun y : Commit => decide (y = c)) x.commits 0 := rfl
  rw [← e] at hf
  rw [if_neg (by simp; omega), hh', Option.bind_some]
  refine ⟨_, rfl, ⟨⟨g1, g2⟩, ⟨by simp; omega, by simp; omega⟩, g5, fun z hz => ?_⟩, by simp; omega, fun z hz => ?_, g9⟩
  ·rcases set_ok _ z hz with h | h
   ·exact g6 z h
   ·subst h; exact hn
  ·rcases set_ok _ z hz with h | h
   ·exact g8 z h
   ·subst h; simp only; omega
theorem mp7 {hs : List Head} {n : Str} : be7 hs n < 0 ∨ 0 ≤ be7 hs n ∧ be7 hs n < hs.length := by
 rcases iV7 (p := fun y : Head => decide (y.name = n)) (l := hs) (k := 0) with h | h
 ·left
  have e : be7 hs n = -1 := h
  omega
 ·right
  have e : be7 hs n = aM7 (fun y : Head => decide (y.name = n)) hs 0 := rfl
  rw [← e] at h
  simpa using h
theorem yN7 {r : am7} {n f : Str} (h : gR r) (hn : n ∈ nm3) (hl : 0 < (jH7 r n f).1.heads.length) : gR (jH7 r n f).1 := by
 unfold jH7 at hl ⊢
 split
 ·rename_i h0
  rw [if_pos h0] at hl
  split
  ·exact h
  ·rename_i h1
   rw [if_neg h1] at hl
   split
   ·exact h
   ·rename_i h2
    rw [if_neg h2] at hl
    obtain ⟨⟨⟨g1, g2⟩, ⟨g3, g4⟩, g5, g6⟩, g7, g8, g9⟩ := h
    have hm := mp7 (hs := r.heads) (n := f)
    obtain ⟨z, hz⟩ := gp7 (xs := r.heads) (i := (be7 r.heads f).toNat) (by omega)
    have hz' : idx r.heads (be7 r.heads f) = some z := by rw [cn7 (by omega)]; exact hz
    rw [hz']
    have hz8 := g8 z (List.mem_of_getElem? hz)
    refine ⟨⟨⟨g1, g2⟩, ⟨by simp, by simp; omega⟩, g5, fun y hy => ?_⟩, by simp; omega, fun y hy => ?_, g9⟩
    ·rcases List.mem_append.1 hy with h | h
     ·exact g6 y h
     ·simp only [List.mem_singleton] at h; subst h; exact hn
    ·rcases List.mem_append.1 hy with h | h
     ·exact g8 y h
     ·simp only [List.mem_singleton] at h; subst h; exact hz8
 ·rename_i h0
  rw [if_neg h0] at hl
  exact absurd hl (by decide)
theorem yO7 {x : am7} (hx : gR x) : Drw (fun r => rE7 r x) 160 fun o => ∀ y, o = some y → gR y := fun b p hb h0 hp => by
 have hw := Qn7 hx.1
 have hx' := hx
 obtain ⟨⟨⟨g1, g2⟩, ⟨g3, g4⟩, g5, g6⟩, g7, g8, g9⟩ := hx
 obtain ⟨nm, p1, h1, a1, b1, c1⟩ := ml7 b p hb h0 (by omega)
 simp only [rE7]
 rw [h1, Option.bind_some]
 simp only
 rw [g57 (by omega), Option.bind_some]
 have hm := mp7 (hs := x.heads) (n := nm)
 by_cases hneg : be7 x.heads nm < 0
 ·rw [if_pos (by simpa using hneg)]
  obtain ⟨k, p2, h2, a2, b2, k1, k2⟩ := bN7 (n := (x.heads.length : Int)) b p1 hb (by omega) (by omega)
  have k2 := k2 (by omega)
  simp only at h2
  obtain ⟨z, hz⟩ := gp7 (xs := x.heads) (i := k.toNat) (by omega)
  have hz' : idx x.heads k = some z := by rw [cn7 k1]; exact hz
  rw [h2, Option.bind_some]
  simp only
  rw [hz', Option.bind_some, r17 (by omega) (by have := uK7 c1; omega), Option.bind_some]
  by_cases hl : 0 < (jH7 x nm z.name).1.heads.length
  ·rw [if_pos (by simpa using hl)]
   exact ⟨_, p2, rfl, by omega, by omega, fun y hy => by cases hy; exact yN7 hx' c1 hl⟩
  ·rw [if_neg (by simpa using hl)]
   exact ⟨_, p2, rfl, by omega, by omega, fun y hy => by cases hy⟩
 ·rw [if_neg (by simpa using hneg)]
  have hm := hm.resolve_left hneg
  obtain ⟨z, hz⟩ := gp7 (xs := x.heads) (i := (be7 x.heads nm).toNat) (by omega)
  have hz' : idx x.heads (be7 x.heads nm) = some z := by rw [cn7 hm.1]; exact hz
  have hz8 := g8 z (List.mem_of_getElem? hz)
  obtain ⟨cm, hcm⟩ := gp7 (xs := x.commits) (i := z.at_.toNat) (by omega)
  have hcm' : idx x.commits z.at_ = some cm := by rw [cn7 hz8.1]; exact hcm
  have hcb := g5 cm (List.mem_of_getElem? hcm)
  obtain ⟨sh, p2, h2, a2, b2, c2⟩ := yM7 hcb.2.1 b p1 hb (by omega) (by omega)
  obtain ⟨nt, p3, h3, a3, b3, c3⟩ := yG7 b p2 hb (by omega) (by omega)
  obtain ⟨k, p4, h4, a4, b4, k1, k2⟩ := bN7 (n := (x.heads.length : Int)) b p3 hb (by omega) (by omega)
  have k2 := k2 (by omega)
  simp only at h2 h3 h4
  obtain ⟨y, hy⟩ := gp7 (xs := x.heads) (i := k.toNat) (by omega)
  have hy' : idx x.heads k = some y := by rw [cn7 k1]; exact hy
  rw [hz', Option.bind_some, hcm', Option.bind_some, h2, Option.bind_some]
  simp only
  rw [h3, Option.bind_some, Option.bind_some]
  simp only
  rw [h4, Option.bind_some]
  simp only
  rw [hy', Option.bind_some]
  obtain ⟨w, p5, h5, a5, b5, _⟩ := bN7 (n := 4) b p4 hb (by omega) (by omega)
  simp only at h5
  have key : ∃ up p6, ((if (y.at_ != z.at_) = true then ((bJ7 (⟨b, p4⟩ : Rd) 4).bind fun x49 => if (x49.1 == 0) = true then (some ([z.at_, y.at_], x49.2)) else (some ([z.at_], x49.2))) else (some ([z.at_], p4)) : Option ((List Int) × Int))) = some (up, p6) ∧ up.length ≤ 2 ∧ p4 ≤ p6 ∧ p6 ≤ p4 + 1 := by
   split
   ·rw [h5, Option.bind_some]
    simp only
    split
    ·exact ⟨_, _, rfl, by simp, a5, b5⟩
    ·exact ⟨_, _, rfl, by simp, a5, b5⟩
   ·exact ⟨_, _, rfl, by simp, by omega, by omega⟩
  obtain ⟨up, p6, k1', k2', k3', k4'⟩ := key
  rw [k1', Option.bind_some]
  by_cases hl : 12 ≤ x.commits.length
  ·rw [if_pos (by simp; omega)]
   exact ⟨_, p6, rfl, by omega, by omega, fun y hy => by cases hy⟩
  ·rw [if_neg (by simp; omega), pt7 (by omega), Option.bind_some]
   obtain ⟨o, o1, o2⟩ := Bd7 (k := be7 x.heads nm) (c := ⟨up, sh, nt⟩) hx' hm.1 hm.2 ⟨by simp only; omega, c2, c3⟩ k2' (by omega)
   rw [o1]
   exact ⟨_, p6, rfl, by omega, by omega, fun y hy => by cases hy; exact o2⟩
theorem hX7 (a : Rd) (hb : a.b.length ≤ 2000) : ∀ (m n : Nat) (i p : Int) (cs : List Commit) (hs : List Head), m < n → i = m → gR ⟨cs, hs⟩ → 0 ≤ p → p + 160 * m ≤ 100000 → ∃ p' cs' hs', dJ7 a n i p cs hs = some (p', cs', hs') ∧ p ≤ p' ∧ p' ≤ p + 160 * m ∧ gR ⟨cs', hs'⟩
 | _, 0, _, _, _, _, h, _, _, _, _ => by omega
 | 0, n + 1, i, p, cs, hs, h, hi, hg, hp, hq => by
  unfold dJ7
  rw [if_neg (by simp; omega)]
  exact ⟨p, cs, hs, rfl, by omega, by omega, hg⟩
 | m + 1, n + 1, i, p, cs, hs, h, hi, hg, hp, hq => by
  unfold dJ7
  rw [if_pos (by simp; omega), aN7 (n := i - 1) (by omega) (by omega)]
  obtain ⟨o, p1, h1, a1, b1, c1⟩ := yO7 hg a.b p hb hp (by omega)
  simp only at h1
  rw [h1, Option.bind_some]
  cases o with
  | none =>
   obtain ⟨p', cs', hs', e1, e2, e3, e4⟩ := hX7 a hb m n (i - 1) p1 cs hs (by omega) (by omega) hg (by omega) (by omega)
   exact ⟨p', cs', hs', e1, by omega, by omega, e4⟩
  | some y =>
   obtain ⟨p', cs', hs', e1, e2, e3, e4⟩ := hX7 a hb m n (i - 1) p1 y.commits y.heads (by omega) (by omega) (c1 y rfl) (by omega) (by omega)
   exact ⟨p', cs', hs', e1, by omega, by omega, e4⟩
theorem yP7 : Drw rF7 1500 gR := fun b p hb h0 hp => by
 obtain ⟨s, p1, h1, a1, b1, s1, s2⟩ := ol7 b p hb h0 (by omega)
 obtain ⟨k, p2, h2, a2, b2, k1, k2⟩ := bN7 (n := 7) b p1 hb (by omega) (by omega)
 have k2 := k2 (by omega)
 have hnew : ry7 (⟨#[109, 97, 105, 110]⟩ : Str) = some (⟨[⟨[], [], (⟨#[98, 101, 103, 105, 110]⟩ : Str)⟩], [⟨(⟨#[109, 97, 105, 110]⟩ : Str), 0⟩]⟩, true) := by
  unfold ry7
  rw [eE7 (by decide), Option.bind_some, (by decide : bd7 (⟨#[109, 97, 105, 110]⟩ : Str) = true)]
  rfl
 simp only at h2
 unfold rF7
 rw [hnew, Option.bind_some, h1, Option.bind_some]
 simp only
 rw [show idx [(⟨[], [], (⟨#[98, 101, 103, 105, 110]⟩ : Str)⟩ : Commit)] 0 = some ⟨[], [], (⟨#[98, 101, 103, 105, 110]⟩ : Str)⟩ from rfl, Option.bind_some, h2, Option.bind_some]
 simp only
 rw [aN7 (n := 2 + k) (by omega) (by omega)]
 have hg : gR ⟨List.set [(⟨[], [], (⟨#[98, 101, 103, 105, 110]⟩ : Str)⟩ : Commit)] (0 : Int).toNat ⟨[], s, (⟨#[98, 101, 103, 105, 110]⟩ : Str)⟩, [⟨(⟨#[109, 97, 105, 110]⟩ : Str), 0⟩]⟩ := by
  refine ⟨⟨⟨by simp, by simp⟩, ⟨by simp, by simp⟩, fun c hc => ?_, fun h hh => ?_⟩, by simp, fun h hh => ?_, fun c hc => ?_⟩
  ·have : c = ⟨[], s, (⟨#[98, 101, 103, 105, 110]⟩ : Str)⟩ := by simpa using hc
   subst this
   exact ⟨by simp, ⟨by simp only; omega, s2⟩, Ft7 (s := ⟨#[98, 101, 103, 105, 110]⟩) (by decide)⟩
  ·simp only [List.mem_singleton] at hh; subst hh; exact (List.mem_cons_self : (⟨#[109, 97, 105, 110]⟩ : Str) ∈ nm3)
  ·simp only [List.mem_singleton] at hh; subst hh; simp
  ·have : c = ⟨[], s, (⟨#[98, 101, 103, 105, 110]⟩ : Str)⟩ := by simpa using hc
   subst this
   simp
 obtain ⟨p3, cs, hs, h3, a3, b3, c3⟩ := hX7 ⟨b, p⟩ hb (2 + k).toNat aT7 (2 + k) p2 _ _ (by unfold aT7; omega) (by omega) hg (by omega) (by omega)
 rw [h3, Option.bind_some]
 simp only
 obtain ⟨w, p4, h4, a4, b4, _⟩ := bN7 (n := 4) b p3 hb (by omega) (by omega)
 simp only at h4
 rw [h4, Option.bind_some]
 simp only
 split
 ·by_cases hl : 1 < hs.length
  ·rw [if_pos (by simp; omega), cd7 (by omega) (by have := c3.2.1; simp only at this; omega)]
   unfold slc
   rw [if_pos ⟨by omega, by omega, by omega⟩]
   obtain ⟨⟨g1, ⟨g3, g4⟩, g5, g6⟩, g7, g8, g9⟩ := c3
   simp only at g3 g4 g7 g8 g6
   refine ⟨_, p4, rfl, by omega, by omega, ⟨g1, ⟨by simp; omega, by simp; omega⟩, g5, fun h hh => ?_⟩, by simp; omega, fun h hh => ?_, g9⟩
   ·exact g6 h (List.mem_of_mem_take (List.mem_of_mem_drop hh))
   ·exact g8 h (List.mem_of_mem_take (List.mem_of_mem_drop hh))
  ·rw [if_neg (by simp; omega)]
   exact ⟨_, p4, rfl, by omega, by omega, c3⟩
 ·exact ⟨_, p4, rfl, by omega, by omega, c3⟩
theorem Be7 {cs : List Commit} {i : Nat} {c y : Commit} (h : y ∈ cs.set i c) : y ∈ cs ∨ y = c := List.mem_or_eq_of_mem_set h
theorem px7 {r : am7} {i : Nat} {c : Commit} (h : bR r) (hc : bC c) : bR ⟨r.commits.set i c, r.heads⟩ := by
 obtain ⟨g1, g2, g3, g4⟩ := h
 refine ⟨by simpa using g1, g2, fun y hy => ?_, g4⟩
 rcases Be7 hy with h | h
 ·exact g3 y h
 ·subst h; exact hc
theorem yQ7 : Drw rG7 1800 bR := fun b p hb h0 hp => by
 obtain ⟨r, p1, h1, a1, b1, hg⟩ := yP7 b p hb h0 (by omega)
 have hr := hg.1
 have hr' := hr
 obtain ⟨⟨g1, g2⟩, ⟨g3, g4⟩, g5, g6⟩ := hr
 have g7 := hg.2.1
 obtain ⟨k, p2, h2, a2, b2, k1, k2⟩ := bN7 (n := (r.commits.length : Int)) b p1 hb (by omega) (by omega)
 have k2 := k2 (by omega)
 obtain ⟨c, p3, h3, a3, b3, _⟩ := bN7 (n := 48) b p2 hb (by omega) (by omega)
 simp only at h2 h3
 unfold rG7
 rw [h1, Option.bind_some]
 simp only
 rw [h2, Option.bind_some]
 simp only
 rw [h3, Option.bind_some, Option.bind_some]
 simp only
 obtain ⟨y, hy⟩ := gp7 (xs := r.commits) (i := k.toNat) (by omega)
 have hy' : idx r.commits k = some y := by rw [cn7 k1]; exact hy
 have hyb := g5 y (List.mem_of_getElem? hy)
 obtain ⟨z, hz⟩ := gp7 (xs := r.heads) (i := 0) (by omega)
 have hz' : idx r.heads 0 = some z := by rw [show (0 : Int) = ((0 : Nat) : Int) from rfl, ag7]; exact hz
 have hzb := g6 z (List.mem_of_getElem? hz)
 by_cases c0 : (c == 0) = true
 ·rw [if_pos c0]
  obtain ⟨x, p4, h4, a4, b4, _⟩ := r37 (l := [-1, (r.commits.length : Int)]) (by simp) b p3 hb (by omega) (by omega)
  simp only at h4
  rw [h4, Option.bind_some, hz']
  refine ⟨_, p4, rfl, by omega, by omega, ⟨g1, g2⟩, ⟨by simp; omega, by simp; omega⟩, g5, fun h hh => ?_⟩
  rcases List.mem_or_eq_of_mem_set hh with h' | h'
  ·exact g6 h h'
  ·subst h'; exact hzb
 rw [if_neg c0]
 by_cases c1 : (c == 1) = true
 ·rw [if_pos c1, hy', Option.bind_some]
  have hup : y.up.length ≤ 2 := hg.2.2.2 y (List.mem_of_getElem? hy)
  rw [if_pos (aa7 (by simp; omega))]
  exact ⟨_, p3, rfl, by omega, by omega, px7 hr' ⟨by simp; omega, hyb.2.1, hyb.2.2⟩⟩
 rw [if_neg c1]
 by_cases c2 : (c == 2) = true
 ·rw [if_pos c2]
  obtain ⟨x, p4, h4, a4, b4, hx⟩ := yJ7 b p3 hb (by omega) (by omega)
  rw [h4, Option.bind_some, hy']
  exact ⟨_, p4, rfl, by omega, by omega, px7 hr' ⟨hyb.1, hx, hyb.2.2⟩⟩
 rw [if_neg c2]
 by_cases c3 : (c == 3) = true
 ·rw [if_pos c3, hy']
  exact ⟨_, p3, rfl, by omega, by omega, px7 hr' ⟨hyb.1, hyb.2.1, Ft7 (s := ⟨#[]⟩) (by decide)⟩⟩
 rw [if_neg c3]
 by_cases c4 : (c == 4) = true
 ·rw [if_pos c4, hz', Option.bind_some, if_pos (aa7 (by simp; omega))]
  refine ⟨_, p3, rfl, by omega, by omega, ⟨g1, g2⟩, ⟨by simp, by simp; omega⟩, g5, fun h hh => ?_⟩
  rcases List.mem_append.1 hh with h' | h'
  ·exact g6 h h'
  ·simp only [List.mem_singleton] at h'; subst h'; exact hzb
 rw [if_neg c4]
 by_cases c5 : (c == 5) = true
 ·rw [if_pos c5, hy']
  exact ⟨_, p3, rfl, by omega, by omega, px7 hr' ⟨by simp, hyb.2.1, hyb.2.2⟩⟩
 rw [if_neg c5]
 exact ⟨r, p3, rfl, by omega, by omega, hr'⟩
theorem Fu7 (code : List UInt8) : ∃ b, rs7 code = some ⟨b, 0⟩ ∧ b.length ≤ 2000 := by
 unfold rs7
 split
 ·rename_i h
  have h' : (code.length : Int) > 2000 := by simpa using h
  unfold slc
  rw [if_pos ⟨by omega, by omega, by omega⟩]
  exact ⟨_, rfl, by simp; omega⟩
 ·rename_i h
  have h' : ¬ (code.length : Int) > 2000 := by simpa using h
  exact ⟨code, rfl, by omega⟩
theorem mq7 {α : Type} {p : α → Nat → Bool} : ∀ {a b : List α} {k : Nat}, a07 p (a ++ b) k = (a07 p a k && a07 p b (k + a.length))
 | [], b, k => by simp [a07]
 | x :: a, b, k => by
  simp only [List.cons_append, a07, mq7 (a := a), List.length_cons, Bool.and_assoc]
  rw [show k + 1 + a.length = k + (a.length + 1) by omega]
theorem mr7 {α : Type} {p q : α → Nat → Bool} {l : List α} {k : Nat} (h : ∀ j x, l[j]? = some x → p x (k + j) = true → q x (k + j) = true) (hp : a07 p l k = true) : a07 q l k = true :=
 jC7 fun j x hx => h j x hx (cf7 hp j x hx)
theorem tg7 {α : Type} {p : α → Bool} : ∀ {a b : List α} {k : Nat}, aM7 p (a ++ b) k = if aM7 p a k < 0 then aM7 p b (k + a.length) else aM7 p a k
 | [], b, k => by simp [aM7]
 | x :: a, b, k => by
  simp only [List.cons_append, aM7]
  split
  ·rw [if_neg (by omega)]
  ·rw [tg7 (a := a), List.length_cons, show k + 1 + a.length = k + (a.length + 1) by omega]
theorem yR7 {α β : Type} {f : α → β} {p : β → Bool} : ∀ {l : List α} {k : Nat}, aM7 (fun x => p (f x)) l k = aM7 p (l.map f) k
 | [], k => rfl
 | x :: l, k => by
  simp only [List.map_cons, aM7]
  split
  ·rfl
  ·exact yR7
theorem r47 {hs : List Head} {n : Str} : be7 hs n = aM7 (fun x => decide (x = n)) (hs.map Head.name) 0 := yR7 (f := Head.name) (p := fun x => decide (x = n))
theorem f67 {a b : List Head} {n : Str} (h : a.map Head.name = b.map Head.name) : be7 a n = be7 b n := by rw [r47, r47, h]
theorem iW7 {hs : List Head} {i : Nat} {h : Head} {v : Int} (hi : hs[i]? = some h) : (hs.set i ⟨h.name, v⟩).map Head.name = hs.map Head.name := by
 rw [List.map_set]
 apply List.ext_getElem?
 intro j
 rw [List.getElem?_set]
 split
 ·rename_i e
  subst e
  have := (List.getElem?_eq_some_iff.1 hi).1
  have e := (List.getElem?_eq_some_iff.1 hi).2
  simp [this, e]
 ·rfl
theorem e77 {r : am7} : bk7 r = true ↔ (1 ≤ r.commits.length ∧ r.commits.length ≤ 14) ∧ (1 ≤ r.heads.length ∧ r.heads.length ≤ 4) ∧ cO7 r.commits = true ∧ nL7 r.commits.length r.heads = true := by
 unfold bk7
 simp only [Bool.and_eq_true, decide_eq_true_eq]
 constructor
 ·rintro ⟨a, b, c, d, e, f⟩; exact ⟨⟨a, b⟩, ⟨c, d⟩, e, f⟩
 ·rintro ⟨⟨a, b⟩, ⟨c, d⟩, e, f⟩; exact ⟨a, b, c, d, e, f⟩
theorem uL7 {r : am7} (h : bk7 r = true) {i : Nat} {z : Head} (hz : r.heads[i]? = some z) : bd7 z.name = true ∧ be7 r.heads z.name = (i : Int) ∧ 0 ≤ z.at_ ∧ z.at_ < (r.commits.length : Int) := by
 have := cf7 (e77.1 h).2.2.2 i z hz
 simp only [Nat.zero_add, Bool.and_eq_true, decide_eq_true_eq] at this
 exact ⟨this.1, this.2.1, this.2.2.1, this.2.2.2⟩
theorem ms7 {r : am7} {i : Nat} {z : Head} {v : Int} (h : bk7 r = true) (hz : r.heads[i]? = some z) (h0 : 0 ≤ v) (h1 : v < (r.commits.length : Int)) : bk7 ⟨r.commits, r.heads.set i ⟨z.name, v⟩⟩ = true := by
 obtain ⟨a, b, c, d⟩ := e77.1 h
 refine e77.2 ⟨a, by simpa using b, c, ?_⟩
 refine jC7 fun j x hx => ?_
 have hn : ∀ n, be7 (r.heads.set i ⟨z.name, v⟩) n = be7 r.heads n := fun n => f67 (iW7 hz)
 simp only [Nat.zero_add, Bool.and_eq_true, decide_eq_true_eq, hn]
 by_cases hj : i = j
 ·subst hj
  rw [List.getElem?_set_self (eD7 hz)] at hx
  cases hx
  obtain ⟨q1, q2, q3, q4⟩ := uL7 h hz
  exact ⟨q1, q2, h0, h1⟩
 ·rw [List.getElem?_set_ne hj] at hx
  obtain ⟨q1, q2, q3, q4⟩ := uL7 h hx
  exact ⟨q1, q2, q3, q4⟩
theorem Qo7 (x y : Head) : ((x.name == y.name) && ((x.at_ == y.at_) && true)) = decide (x = y) := by
 obtain ⟨a, b⟩ := x; obtain ⟨c, d⟩ := y
 simp only [Ho7]
 by_cases h1 : a = c <;> by_cases h2 : b = d <;> simp [h1, h2]
theorem Bf7 {a b : List Head} (h : a.length ≤ 1048576) : uu7 a b = some (decide (a = b)) := cN7 (gl := fR7) (ok := fun _ => True) (fun _ _ => rfl) (fun a x l k y _ hy => by
 simp only [fR7, ag7, hy, Option.bind_some, Qo7]
 by_cases e : x = y <;> simp [e]) (fun _ _ => rfl) h (fun _ _ => trivial)
theorem vW7 {a b : List Commit} (h : wL aA7 a ≤ 1048576) : uv7 a b = some (decide (a = b)) := cN7 (gl := fS7) (ok := fun x => aA7 x ≤ 1048576) (fun _ _ => rfl) (fun a x l k y hx hy => by
 simp only [fS7, ag7, hy, Option.bind_some, kn7 hx]
 by_cases e : x = y <;> simp [e]) (fun _ _ => rfl) (by unfold wL at h; omega) (fun x hx => by have := bA7 (w := aA7) hx; unfold wL at h; omega)
theorem om7 {a b : am7} (h : ba7 a ≤ 1048576) : kg7 a b = some (decide (a = b)) := by
 unfold ba7 at h
 unfold kg7
 rw [vW7 (by omega), Bf7 (by unfold wL at h; omega)]
 obtain ⟨i, s⟩ := a; obtain ⟨i2, s2⟩ := b
 by_cases h1 : i = i2 <;> by_cases h2 : s = s2 <;> simp [h1, h2]
theorem iX7 {r : am7} {n : Str} (hw : ba7 r ≤ 1048576) : kf7 r n = some (f47 r n) := by
 have hh : r.heads.length ≤ 1048576 := by unfold ba7 wL at hw; omega
 unfold kf7
 rw [f17 hh, iQ7 hw]
 simp only [Option.bind_some]
 rcases rZ7 r n with ⟨h1, h2⟩ | ⟨k, a, h, hr, h1, h2, h3, h4, h5, h6⟩
 ·rw [h1]
  by_cases hr : bk7 r = true
  ·rw [hr, h2 hr]
   rfl
  ·simp only [Bool.not_eq_true] at hr
   rw [hr]
   rfl
 ·rw [h6, hr, h1]
  simp only [Bool.not_true]
  rw [if_neg (by decide), if_neg (by simp), ag7, h2]
  simp [h4]
theorem yS7 {m : List Bool} {k : Nat} (h : gj7 m k = true) : k < m.length := by
 unfold gj7 at h
 rcases Nat.lt_or_ge k m.length with h1 | h1
 ·exact h1
 ·rw [List.getElem?_eq_none h1] at h
  cases h
theorem uM7 {m : List Bool} {a : Nat} : ∀ {b : Nat}, a ≤ b → cnt m a ≤ cnt m b
 | 0, h => by
  have : a = 0 := by omega
  subst this; exact Nat.le_refl _
 | b + 1, h => by
  rcases Nat.eq_or_lt_of_le h with rfl | h
  ·exact Nat.le_refl _
  ·have := uM7 (m := m) (a := a) (b := b) (by omega)
   simp only [cnt]
   omega
theorem on7 {m : List Bool} : ∀ {l : List Commit} {k : Nat}, (gk7 m l k).length + cnt m k = cnt m (k + l.length)
 | [], k => by simp [gk7]
 | x :: l, k => by
  have ih := on7 (m := m) (l := l) (k := k + 1)
  simp only [cnt] at ih
  rw [List.length_cons, show k + (l.length + 1) = k + 1 + l.length by omega]
  simp only [gk7]
  split
  ·rename_i h
   rw [if_pos h] at ih
   simp only [List.length_cons]
   omega
  ·rename_i h
   rw [if_neg h] at ih
   omega
theorem oo7 {m : List Bool} : ∀ {l : List Commit} {k j : Nat} {x : Commit}, l[j]? = some x → gj7 m (k + j) = true → (gk7 m l k)[cnt m (k + j) - cnt m k]? = some (A97 m x)
 | [], k, j, x, h, _ => by simp at h
 | y :: l, k, 0, x, h, ht => by
  simp only [List.getElem?_cons_zero, Option.some.injEq] at h
  subst h
  simp only [Nat.add_zero] at ht
  simp [gk7, ht]
 | y :: l, k, j + 1, x, h, ht => by
  rw [show k + (j + 1) = k + 1 + j by omega] at ht ⊢
  have ih := oo7 (m := m) (l := l) (k := k + 1) (j := j) (by simpa using h) ht
  have hm := uM7 (m := m) (a := k + 1) (b := k + 1 + j) (by omega)
  simp only [cnt] at ih hm
  simp only [gk7]
  split
  ·rename_i hk
   rw [if_pos hk] at ih hm
   rw [show cnt m (k + 1 + j) - cnt m k = cnt m (k + 1 + j) - (cnt m k + 1) + 1 by omega, List.getElem?_cons_succ]
   exact ih
  ·rename_i hk
   rw [if_neg hk] at ih
   exact ih
theorem yT7 {m : List Bool} : ∀ {n j : Nat}, j < cnt m n → ∃ k, k < n ∧ gj7 m k = true ∧ cnt m k = j
 | 0, j, h => by simp [cnt] at h
 | n + 1, j, h => by
  by_cases hn : j < cnt m n
  ·obtain ⟨k, h1, h2, h3⟩ := yT7 hn
   exact ⟨k, by omega, h2, h3⟩
  ·simp only [cnt] at h
   split at h
   ·rename_i ht
    exact ⟨n, by omega, ht, by omega⟩
   ·omega
structure Kept (cs : List Commit) (m : List Bool) : Prop where
 hist : pG7 cs
 len : m.length = cs.length
 up : ∀ k x u, cs[k]? = some x → gj7 m k = true → u ∈ x.up → gj7 m u.toNat = true
section
variable {cs : List Commit} {m : List Bool}
theorem Kept.get (h : Kept cs m) {k : Nat} (hk : gj7 m k = true) : ∃ x, cs[k]? = some x ∧ (gk7 m cs 0)[cnt m k]? = some (A97 m x) := by
 obtain ⟨x, hx⟩ := gp7 (xs := cs) (i := k) (by rw [← h.len]; exact yS7 hk)
 have := oo7 (m := m) (l := cs) (k := 0) (j := k) hx (by simpa using hk)
 simp only [Nat.zero_add, cnt, Nat.sub_zero] at this
 exact ⟨x, hx, this⟩
theorem Kept.tot (h : Kept cs m) : (gk7 m cs 0).length = cnt m cs.length := by
 have := on7 (m := m) (l := cs) (k := 0)
 simp only [Nat.zero_add, cnt] at this
 exact this
theorem Kept.from (h : Kept cs m) {j : Nat} {y : Commit} (hy : (gk7 m cs 0)[j]? = some y) : ∃ k x, gj7 m k = true ∧ cnt m k = j ∧ cs[k]? = some x ∧ y = A97 m x := by
 have := eD7 hy
 rw [h.tot] at this
 obtain ⟨k, h1, h2, h3⟩ := yT7 this
 obtain ⟨x, h4, h5⟩ := h.get h2
 rw [h3, hy] at h5
 exact ⟨k, x, h2, h3, h4, Option.some.inj h5⟩
theorem Kept.anc (h : Kept cs m) {a b : Nat} (ha : gj7 m a = true) (hab : Anc cs a b) : gj7 m b = true ∧ Anc (gk7 m cs 0) (cnt m a) (cnt m b) := by
 induction hab with
 | refl => exact ⟨ha, .refl _⟩
 | up _ hx hu ih =>
  rename_i c x u _
  obtain ⟨x', h1, h2⟩ := h.get ih.1
  rw [hx] at h1
  cases h1
  refine ⟨h.up _ _ _ hx ih.1 hu, ?_⟩
  exact Anc.up (u := (cnt m u.toNat : Int)) ih.2 h2 (List.mem_map.2 ⟨u, hu, rfl⟩)
end
theorem Fv7 {α : Type} {p : α → Bool} {l : List α} {k : Nat} (h : aM7 p l 0 = (k : Int)) : (∃ x, l[k]? = some x ∧ p x = true) ∧ ∀ j y, j < k → l[j]? = some y → p y = false := by
 have key : ∀ (l : List α) (k q : Nat), aM7 p l q = ((q + k : Nat) : Int) → (∃ x, l[k]? = some x ∧ p x = true) ∧ ∀ j y, j < k → l[j]? = some y → p y = false := by
  intro l
  induction l with
  | nil => intro k q h; simp only [aM7] at h; omega
  | cons z l ih =>
   intro k q h
   simp only [aM7] at h
   by_cases hz : p z = true
   ·rw [if_pos hz] at h
    have : k = 0 := by omega
    subst this
    exact ⟨⟨z, rfl, hz⟩, fun j y hj => by omega⟩
   ·rw [if_neg hz] at h
    cases k with
    | zero =>
     have hge : ∀ (l : List α) (q : Nat), aM7 p l q = -1 ∨ (q : Int) ≤ aM7 p l q := by
      intro l
      induction l with
      | nil => intro q; exact .inl rfl
      | cons w l ih =>
       intro q
       simp only [aM7]
       split
       ·exact .inr (Int.le_refl _)
       ·rcases ih (q + 1) with h1 | h1
        ·exact .inl h1
        ·exact .inr (by omega)
     rcases hge l (q + 1) with h1 | h1 <;> omega
    | succ k =>
     obtain ⟨⟨x, h1, h2⟩, h3⟩ := ih k (q + 1) (by rw [h]; congr 1; omega)
     refine ⟨⟨x, by simpa using h1, h2⟩, fun j y hj hy => ?_⟩
     cases j with
     | zero => simp only [List.getElem?_cons_zero, Option.some.injEq] at hy; subst hy; simpa using hz
     | succ j => exact h3 j y (by omega) (by simpa using hy)
 exact key l k 0 (by simpa using h)
theorem yU7 {r : am7} {n : Str} {i : Nat} {z : Head} (hr : bk7 r = true) (hi : be7 r.heads n = (i : Int)) (hz : r.heads[i]? = some z) : f47 r n = z.at_ := by
 unfold f47
 rw [if_pos hr, hi, ag7, hz]
theorem f77 {r : am7} {k : Nat} {x : Commit} (hw : ba7 r ≤ 1048576) (hx : r.commits[k]? = some x) : wL aZ7 x.sheet ≤ 1048576 := by
 have := bA7 (w := aA7) (List.mem_of_getElem? hx)
 have h3 : wL aZ7 x.sheet ≤ aA7 x := by unfold aA7; omega
 unfold ba7 at hw
 have h4 : wL aA7 r.commits = r.commits.length + h37 aA7 r.commits := rfl
 omega
structure Added (r : am7) (n t : Str) (s : List Feat) (i : Nat) (z : Head) (x : Commit) (q : am7) (k : Nat) : Prop where
 repo : bk7 r = true
 sheet : a87 s = true
 word : bd7 t = true
 hd : be7 r.heads n = (i : Int)
 at_ : r.heads[i]? = some z
 name : z.name = n
 was : r.commits[z.at_.toNat]? = some x
 ge : 0 ≤ z.at_
 ne : x.sheet ≠ s
 eq : Qk7 r n s t = (q, 0)
 heads : q.heads = r.heads.set i ⟨z.name, (k : Int)⟩
 comm : (q.commits = r.commits ∧ k < r.commits.length) ∨ (q.commits = r.commits ++ [⟨[z.at_], s, t⟩] ∧ k = r.commits.length ∧ r.commits.length < 14)
 get : q.commits[k]? = some ⟨[z.at_], s, t⟩
 repo' : bk7 q = true
theorem yV7 {cs : List Commit} {c : Commit} {k : Nat} (h : cl7 cs c = (k : Int)) : cs[k]? = some c := by
 obtain ⟨x, h1, h2⟩ := (Fv7 h).1
 rw [h1, of_decide_eq_true h2]
section
variable {r q : am7} {n t : Str} {s : List Feat} {i k : Nat} {z : Head} {x : Commit}
theorem Added.head (h : Added r n t s i z x q k) : be7 q.heads n = (i : Int) ∧ q.heads[i]? = some ⟨z.name, (k : Int)⟩ := by
 rw [h.heads]
 refine ⟨?_, List.getElem?_set_self (eD7 h.at_)⟩
 rw [f67 (iW7 h.at_)]
 exact h.hd
theorem Added.w (h : Added r n t s i z x q k) (hw : ba7 r ≤ 1000000) (hs : wL aZ7 s ≤ 20000) (ht : t.size ≤ 7) : ba7 q ≤ ba7 r + 20010 := by
 have h1 := Mm7 (r := r) (n := n) (t := t) (s := s)
 rw [h.eq] at h1
 simp only at h1
 omega
end
theorem uN7 (r : am7) : (⟨r.commits, r.heads⟩ : am7) = r := rfl
theorem Anc.head' {cs : List Commit} {a b : Nat} (h : Anc cs a b) : a = b ∨ ∃ x u, cs[a]? = some x ∧ u ∈ x.up ∧ Anc cs u.toNat b := by
 induction h with
 | refl => exact .inl rfl
 | up h hx hu ih =>
  rename_i c x u
  rcases ih with rfl | ⟨y, v, h1, h2, h3⟩
  ·exact .inr ⟨x, u, hx, hu, .refl _⟩
  ·exact .inr ⟨y, v, h1, h2, h3.up hx hu⟩
theorem Fw7 {cs : List Commit} {k a j : Nat} {c : Commit} (hk : cs[k]? = some c) (hu : c.up = [(a : Int)]) : Anc cs k j ↔ k = j ∨ Anc cs a j := by
 constructor
 ·intro h
  rcases h.head' with h1 | ⟨x, u, h1, h2, h3⟩
  ·exact .inl h1
  ·rw [hk] at h1
   cases h1
   rw [hu] at h2
   simp only [List.mem_singleton] at h2
   subst h2
   exact .inr (by simpa using h3)
 ·rintro (rfl | h)
  ·exact .refl _
  ·have h1 : Anc cs k ((a : Int).toNat) := .up (.refl k) hk (by rw [hu]; simp)
   exact Anc.trans (by simpa using h1) h
theorem yW7 {cs e : List Commit} (hc : pG7 cs) {a b : Nat} (ha : a < cs.length) : Anc (cs ++ e) a b ↔ Anc cs a b := by
 constructor
 ·intro h
  have key : b < cs.length ∧ Anc cs a b := by
   induction h with
   | refl => exact ⟨ha, .refl _⟩
   | up h hx hu ih =>
    rename_i c x u
    rw [List.getElem?_append_left ih.1] at hx
    have := hc.lt _ _ hx u hu
    exact ⟨by omega, ih.2.up hx hu⟩
  exact key.2
 ·intro h
  induction h with
  | refl => exact .refl _
  | up h hx hu ih => exact ih.up (by rw [List.getElem?_append_left (eD7 hx)]; exact hx) hu
section
variable {r q : am7} {n t : Str} {s : List Feat} {i k : Nat} {z : Head} {x : Commit}
end
theorem py7 {cs : List Commit} (h : cO7 cs = true) : ∀ (n a : Nat), a ≤ n → a < cs.length → Anc cs a 0
 | n, 0, _, _ => .refl 0
 | 0, a + 1, h1, _ => by omega
 | n + 1, a + 1, h1, h2 => by
  obtain ⟨c, hc⟩ := gp7 h2
  have hu := (jD7 h hc).1
  have hlt := (Fk7 hu).1
  simp only [mUp, Bool.and_eq_true, beq_iff_eq] at hu
  have h3 : decide (0 < c.up.length) = true := by rw [hu.2.2.1]; simp
  have h3 := of_decide_eq_true h3
  obtain ⟨u, hu0⟩ := gp7 h3
  have hm := List.mem_of_getElem? hu0
  have h4 := hlt u hm
  exact (Anc.up (.refl (a + 1)) hc hm).trans (py7 h n u.toNat (by omega) (by omega))
theorem kq7 {r : am7} (h : bk7 r = true) : cO7 r.commits = true := by
 unfold bk7 at h
 simp only [Bool.and_eq_true] at h
 exact h.2.2.2.2.1
open Classical in
theorem f87 {r : am7} {i k : Nat} (hw : ba7 r ≤ 1048576) (hr : bk7 r = true) (hi : i < r.commits.length) (hk : k < r.commits.length) : kh7 r (i : Int) (k : Int) = some (decide (Anc r.commits k i)) := by
 have hl := dO7 hr
 unfold kh7
 rw [iQ7 hw, Option.bind_some, hr, if_pos rfl, gI7 (by omega), Option.bind_some, if_pos (by simp; omega), gI7 (by omega), Option.bind_some, if_pos (by simp; omega), oi7 (cV7 hr) (by omega) hk, Option.bind_some, ag7, d07 hi]
 rfl
theorem op7 {p : Nat → Bool} : ∀ {n k : Nat}, k < n → p k = true → ∃ m : Nat, (gq7 p n).head? = some (m : Int) ∧ m < n ∧ p m = true ∧ ∀ j : Nat, m < j → j < n → p j = false
 | 0, k, h, _ => by omega
 | n + 1, k, h, hp => by
  simp only [gq7]
  by_cases hn : p n = true
  ·rw [if_pos hn]
   exact ⟨n, rfl, by omega, hn, fun j h1 h2 => by omega⟩
  ·rw [if_neg hn]
   have hk : k < n := by
    rcases Nat.lt_or_ge k n with h1 | h1
    ·exact h1
    ·have : k = n := by omega
     subst this
     exact absurd hp hn
   obtain ⟨m, h1, h2, h3, h4⟩ := op7 hk hp
   exact ⟨m, h1, by omega, h3, fun j h5 h6 => by
    rcases Nat.lt_or_ge j n with h7 | h7
    ·exact h4 j h5 h7
    ·have : j = n := by omega
     subst this
     simpa using hn⟩
theorem iY7 {r : am7} {a b : Int} (h : ¬ (inR r a && inR r b) = true) : cW7 r a b = -1 := by
 unfold cW7
 rw [if_neg h]
 rfl
theorem gK7 {r : am7} {a b : Nat} (hr : bk7 r = true) (ha : a < r.commits.length) (hb : b < r.commits.length) : ∃ k : Nat, cW7 r a b = (k : Int) ∧ k < r.commits.length ∧ Com r.commits a b k ∧ ∀ j, k < j → ¬ Com r.commits a b j := by
 have hc := cV7 hr
 have h1 : (inR r (a : Int) && inR r (b : Int)) = true := by unfold inR; rw [hr]; simp; omega
 have h0 : Com r.commits a b 0 := ⟨py7 (kq7 hr) _ a (Nat.le_refl _) ha, py7 (kq7 hr) _ b (Nat.le_refl _) hb⟩
 obtain ⟨i, hi, _⟩ := jF7 hc _ 0 (Nat.le_refl _) h0
 have hil : i < r.commits.length := by have := hi.1.1.le hc; omega
 obtain ⟨m, m1, m2, m3, m4⟩ := op7 (p := fun k => @decide (mH7 r.commits a b k) (Classical.propDecidable _)) hil (by simpa using hi)
 refine ⟨m, ?_, m2, ?_, fun j hj hcm => ?_⟩
 ·unfold cW7
  rw [if_pos h1]
  simp only [Int.toNat_natCast]
  unfold of7
  rw [m1]
  rfl
 ·have : mH7 r.commits a b m := by simpa using m3
  exact this.1
 ·obtain ⟨e, he, he2⟩ := jF7 hc _ j (Nat.le_refl _) hcm
  have h5 := he2.le hc
  have h6 : e < r.commits.length := by have := he.1.1.le hc; omega
  have h7 := m4 e (by omega) h6
  simp at h7
  exact h7 he
def nF : Feat := ⟨⟨#[]⟩, ⟨0, []⟩, []⟩
theorem kY7 {α : Type} {p : α → Bool} : ∀ (l : List α) (k : Nat), (l.find? p = none ∧ aM7 p l k = -1) ∨ ∃ j x, l.find? p = some x ∧ aM7 p l k = ((k + j : Nat) : Int) ∧ l[j]? = some x ∧ p x = true
 | [], k => .inl ⟨rfl, rfl⟩
 | y :: l, k => by
  simp only [List.find?_cons, aM7]
  cases hp : p y
  ·rcases kY7 (p := p) l (k + 1) with ⟨h1, h2⟩ | ⟨j, x, h1, h2, h3, h4⟩
   ·exact .inl ⟨h1, by simpa using h2⟩
   ·exact .inr ⟨j + 1, x, h1, by simp only [h2]; simp; omega, h3, h4⟩
  ·exact .inr ⟨0, y, rfl, by simp, rfl, hp⟩
def bH7 (s : List Feat) (id : Str) : Feat × Bool := match s.find? (fun f : Feat => decide (f.id = id)) with
 | some f => (f, true)
 | none => (nF, false)
theorem Bg7 {s : List Feat} {id : Str} (hl : s.length ≤ 1048576) : rh7 s id = some (aM7 (fun f : Feat => decide (f.id = id)) s 0) := by
 unfold rh7 ur7
 have h := mX7 (gl := fL7 id) (p := fun f : Feat => decide (f.id = id)) (ok := fun _ => True) (fun _ => rfl) (fun x l k _ => by simp only [fL7, uq7, bT7, Option.bind_some]) s 0 (fun _ _ => trivial)
 rw [if_pos (aa7 hl)]
 exact (congrArg (fun o => Option.bind o fun x2 => some x2) h)
theorem Bh7 {s : List Feat} {id : Str} (hl : s.length ≤ 1048576) : ka7 s id = some (aM7 (fun f : Feat => decide (f.id = id)) s 0) := by
 unfold ka7
 have h := mX7 (gl := eg7 id) (p := fun f : Feat => decide (f.id = id)) (ok := fun _ => True) (fun _ => rfl) (fun x l k _ => by simp only [eg7, bT7]) s 0 (fun _ _ => trivial)
 rw [if_pos (aa7 hl)]
 exact h
theorem Mq7 {s : List Feat} {id : Str} (h : wL aZ7 s ≤ 1048576) : ri7 s id = some (bH7 s id) := by
 have hl : s.length ≤ 1048576 := by unfold wL at h; omega
 unfold ri7 bH7
 rw [Bg7 hl, Option.bind_some]
 rcases kY7 (p := fun f : Feat => decide (f.id = id)) s 0 with ⟨h1, h2⟩ | ⟨j, x, h1, h2, h3, h4⟩
 ·rw [h1, h2]; rfl
 ·have hx := bA7 (w := aZ7) (List.mem_of_getElem? h3)
  rw [h1, h2, if_neg (by simp), ag7, Nat.zero_add, h3, Option.bind_some, f57 (by unfold wL at h; omega)]
  rfl
theorem pz7 {s : List Feat} {id : Str} (h : wL aZ7 s ≤ 1048576) : lR7 s id = some (bH7 s id) := by
 have hl : s.length ≤ 1048576 := by unfold wL at h; omega
 unfold lR7 bH7
 rw [Bh7 hl, Option.bind_some]
 rcases kY7 (p := fun f : Feat => decide (f.id = id)) s 0 with ⟨h1, h2⟩ | ⟨j, x, h1, h2, h3, h4⟩
 ·rw [h1, h2]; rfl
 ·have hx := bA7 (w := aZ7) (List.mem_of_getElem? h3)
  rw [h1, h2, if_neg (by simp), ag7, Nat.zero_add, h3, Option.bind_some, kX7 (by unfold wL at h; omega)]
  rfl
def m97 (s : List Feat) (id : Str) : List Feat := s.filter fun y => !decide (y.id = id)
def h77 (f : Feat) : List Feat → List Feat
 | [] => [f]
 | x :: l => if slt x.id f.id = true then x :: h77 f l else f :: m97 (x :: l) f.id
theorem uO7 {a b : Str} (h : slt a b = true) : a ≠ b := fun e => by
 rw [e, slt_sw.irrefl] at h
 cases h
theorem jJ7 {x : Feat} {l : List Feat} {id : Str} : m97 (x :: l) id = if x.id = id then m97 l id else x :: m97 l id := by
 unfold m97
 rw [List.filter_cons]
 by_cases h : x.id = id <;> simp [h]
theorem kZ7 {f : Feat} : ∀ (l : List Feat) (k : Nat) (v : List Feat), v.length + l.length ≤ 1048576 → cu7 f l k true v = some (true, v ++ m97 l f.id)
 | [], k, v, _ => by simp [cu7, m97]
 | x :: l, k, v, h => by
  simp only [List.length_cons] at h
  simp only [cu7, bT7, Bool.not_true, Bool.false_eq_true, if_false, Option.bind_some]
  rw [jJ7]
  by_cases e : x.id = f.id
  ·rw [if_neg (by simp [e]), kZ7 l (k + 1) v (by omega), if_pos e]
  ·rw [if_pos (by simp [e]), if_pos (aa7 (by simp; omega)), kZ7 l (k + 1) _ (by simp; omega), if_neg e]
   simp
theorem uP7 {f : Feat} : ∀ (l : List Feat) (k : Nat) (v : List Feat), v.length + l.length + 1 ≤ 1048576 → ∃ d o, cu7 f l k false v = some (d, o) ∧ (if d = true then o else o ++ [f]) = v ++ h77 f l
 | [], k, v, _ => ⟨false, v, rfl, by simp [h77]⟩
 | x :: l, k, v, h => by
  simp only [List.length_cons] at h
  simp only [cu7, bT7, Bool.not_false, if_true, h77]
  by_cases e : slt x.id f.id = true
  ·have hn := uO7 e
   obtain ⟨d, o, h1, h2⟩ := uP7 l (k + 1) (v ++ [x]) (by simp; omega)
   refine ⟨d, o, ?_, by rw [h2, if_pos e]; simp⟩
   rw [if_neg (by simp [e]), Option.bind_some]
   simp only
   rw [if_pos (by simp [hn]), if_pos (aa7 (by simp; omega)), h1]
  ·rw [if_pos (by simpa using e), if_pos (aa7 (by simp; omega)), Option.bind_some]
   simp only
   rw [if_neg e, jJ7]
   by_cases e2 : x.id = f.id
   ·rw [if_neg (by simp [e2]), kZ7 l (k + 1) _ (by simp; omega), if_pos e2]
    exact ⟨true, _, rfl, by simp⟩
   ·rw [if_pos (by simp [e2]), if_pos (aa7 (by simp; omega)), kZ7 l (k + 1) _ (by simp; omega), if_neg e2]
    exact ⟨true, _, rfl, by simp⟩
theorem iZ7 {f : Feat} : ∀ (l : List Feat), (h77 f l).length ≤ l.length + 1
 | [] => by simp [h77]
 | x :: l => by
  have := iZ7 (f := f) l
  have h2 : (m97 (x :: l) f.id).length ≤ (x :: l).length := List.length_filter_le _ _
  unfold h77
  split
  ·simp only [List.length_cons]; omega
  ·simp only [List.length_cons] at h2 ⊢; omega
theorem yX7 {s : List Feat} {f : Feat} (h : s.length + 1 ≤ 1048576) : gd7 s f = some (h77 f s) := by
 obtain ⟨d, o, h1, h2⟩ := uP7 (f := f) s 0 [] (by simp; omega)
 have h3 := iZ7 (f := f) s
 simp only [List.nil_append] at h2
 unfold gd7
 rw [if_pos (aa7 (by omega)), h1, Option.bind_some]
 cases d
 ·simp only [Bool.not_false, if_true]
  simp only [Bool.false_eq_true, if_false] at h2
  rw [if_pos (aa7 (by rw [h2]; omega)), h2]
 ·simp only [if_true] at h2
  simp [h2]
def Pw (v : List Feat) : Prop := v.Pairwise fun a b => slt a.id b.id = true
theorem uQ7 {f : Feat} : ∀ {l : List Feat} {y : Feat}, y ∈ h77 f l → y = f ∨ y ∈ l
 | [], y, h => by simpa [h77] using h
 | x :: l, y, h => by
  unfold h77 at h
  split at h
  ·rcases List.mem_cons.1 h with h | h
   ·exact .inr (by simp [h])
   ·rcases uQ7 h with h | h
    ·exact .inl h
    ·exact .inr (by simp [h])
  ·rcases List.mem_cons.1 h with h | h
   ·exact .inl h
   ·exact .inr (List.mem_filter.1 h).1
theorem yY7 {f : Feat} : ∀ {l : List Feat}, Pw l → Pw (h77 f l)
 | [], _ => by simp [h77, Pw]
 | x :: l, h => by
  unfold Pw at h
  rw [List.pairwise_cons] at h
  unfold h77
  by_cases e : slt x.id f.id = true
  ·rw [if_pos e]
   unfold Pw
   rw [List.pairwise_cons]
   refine ⟨fun y hy => ?_, yY7 h.2⟩
   rcases uQ7 hy with rfl | hy
   ·exact e
   ·exact h.1 y hy
  ·rw [if_neg e]
   unfold Pw
   rw [List.pairwise_cons]
   refine ⟨fun y hy => ?_, List.Pairwise.filter _ (List.pairwise_cons.2 h)⟩
   obtain ⟨hy, hn⟩ := List.mem_filter.1 hy
   simp only [Bool.not_eq_true', decide_eq_false_iff_not] at hn
   have hf : slt x.id f.id = false := by simpa using e
   have hxy : slt y.id f.id = false := by
    rcases List.mem_cons.1 hy with rfl | hy
    ·exact hf
    ·cases h2 : slt y.id f.id
     ·rfl
     ·rw [slt_sw.trans _ _ _ (h.1 y hy) h2] at hf; cases hf
   cases h3 : slt f.id y.id
   ·exact absurd (oY7 hxy h3) hn
   ·rfl
theorem r57 {f : Feat} : ∀ {l : List Feat}, (h77 f l).Perm (f :: m97 l f.id)
 | [] => by simp [h77, m97]
 | x :: l => by
  unfold h77
  by_cases e : slt x.id f.id = true
  ·rw [if_pos e, jJ7, if_neg (uO7 e)]
   exact (List.Perm.cons x r57).trans (List.Perm.swap f x _)
  ·rw [if_neg e]
theorem yZ7 {s : List Feat} (h : a87 s = true) : Pw s := by
 unfold a87 at h
 rw [Bool.and_eq_true] at h
 have key : ∀ k x y, s[k]? = some x → s[k + 1]? = some y → slt x.id y.id = true := by
  intro k x y hx hy
  have := cf7 h.1 (k + 1) y hy
  simp only [Nat.zero_add, Bool.and_eq_true, Bool.or_eq_true, decide_eq_true_eq, ku7, Nat.add_sub_cancel, hx] at this
  rcases this.2 with h | h
  ·omega
  ·exact h
 clear h
 induction s with
 | nil => exact List.Pairwise.nil
 | cons a s ih =>
  have ih := ih fun k x y hx hy => key (k + 1) x y hx hy
  unfold Pw
  rw [List.pairwise_cons]
  refine ⟨?_, ih⟩
  cases s with
  | nil => intro y hy; cases hy
  | cons b s =>
   have h1 := key 0 a b rfl rfl
   have ih2 := ih
   unfold Pw at ih2
   rw [List.pairwise_cons] at ih2
   intro y hy
   rcases List.mem_cons.1 hy with rfl | hy
   ·exact h1
   ·exact slt_sw.trans _ _ _ h1 (ih2.1 y hy)
theorem oq7 {s : List Feat} {id : Str} : aZ7 (bH7 s id).1 ≤ wL aZ7 s := by
 unfold bH7
 split
 ·rename_i f hf
  have := bA7 (w := aZ7) (List.mem_of_find?_eq_some hf)
  unfold wL
  simp only
  omega
 ·exact Nat.zero_le _
theorem mt7 {f : Feat} (h : bM7 f = true) : aZ7 f ≤ 100 := by
 unfold bM7 dt7 qE7 at h
 simp only [Bool.and_eq_true, decide_eq_true_eq] at h
 obtain ⟨h1, ⟨h2, h3, h4⟩, h5, h6⟩ := h
 have a1 := ck7 h1
 have a2 : h37 sO7 f.tags ≤ 14 * f.tags.length := jI7 fun t ht => by
  obtain ⟨j, hj⟩ := Mp7 h5 ht
  simp only [Bool.and_eq_true] at hj
  have b1 := ck7 hj.1
  have b2 := ck7 hj.2.1
  unfold sO7
  omega
 have a3 := qB7 f.shape.pts
 unfold aZ7 hk7 wL
 omega
def SPw (v : List Str) : Prop := v.Pairwise fun a b => slt a b = true
theorem r67 {v : List Str} (h : SPw v) : v.Nodup := List.Pairwise.imp (fun h => uO7 h) h
theorem y07 {a b : List Str} (ha : SPw a) (hb : SPw b) (h : ∀ x, x ∈ a ↔ x ∈ b) : a = b := by
 have hp : a.Perm b := (List.perm_ext_iff_of_nodup (r67 ha) (r67 hb)).2 h
 refine List.Perm.eq_of_pairwise (le := fun a b => slt a b = true) (fun x y _ _ g1 g2 => ?_) ha hb hp
 have := slt_sw.trans _ _ _ g1 g2
 rw [slt_sw.irrefl] at this
 cases this
theorem r77 (a b c : Str) : leS a b = true → leS b c = true → leS a c = true := by
 unfold leS
 simp only [Bool.not_eq_true']
 exact fun h1 h2 => slt_sw.ntrans _ _ _ h2 h1
theorem r87 (a b : Str) : (leS a b || leS b a) = true := by
 unfold leS
 cases h : slt b a
 ·rfl
 ·cases h2 : slt a b
  ·rfl
  ·have := slt_sw.trans _ _ _ h h2
   rw [slt_sw.irrefl] at this
   cases this
theorem y17 {a b : Str} (h : leS a b = true) (hn : a ≠ b) : slt a b = true := by
 unfold leS at h
 cases h2 : slt a b
 ·exact absurd (oY7 h2 (by simpa using h)) hn
 ·rfl
theorem Cz7 {a b c : Str} (h : leS a b = true) (h2 : slt b c = true) : slt a c = true := by
 by_cases e : a = b
 ·rw [e]; exact h2
 ·exact slt_sw.trans _ _ _ (y17 h e) h2
theorem uR7 {xs : List Str} {y : Str} : y ∈ Go.Lib.compact xs ↔ y ∈ xs := by
 unfold Go.Lib.compact Go.Lib.compactUpTo
 rw [List.mem_map]
 constructor
 ·rintro ⟨j, hj, rfl⟩
  rw [List.mem_filter, List.mem_range] at hj
  rw [getElem!_pos _ j (by simpa using hj.1)]
  simp
 ·intro h
  obtain ⟨j, hj⟩ := List.mem_iff_getElem?.1 h
  induction j using Nat.strongRecOn with
  | _ j ih =>
   have hl := (List.getElem?_eq_some_iff.1 hj).1
   have he := (List.getElem?_eq_some_iff.1 hj).2
   by_cases hk : j = 0 ∨ xs.toArray[j]! ≠ xs.toArray[j - 1]!
   ·refine ⟨j, ?_, ?_⟩
    ·rw [List.mem_filter, List.mem_range]
     exact ⟨hl, by unfold Go.Lib.keeps; exact decide_eq_true hk⟩
    ·rw [getElem!_pos _ j (by simpa using hl)]
     simpa using he
   ·have h0 : j ≠ 0 := fun e => hk (.inl e)
    have h1 : xs.toArray[j]! = xs.toArray[j - 1]! := Classical.not_not.1 fun e => hk (.inr e)
    rw [getElem!_pos _ j (by simpa using hl), getElem!_pos _ (j - 1) (by simp; omega)] at h1
    simp only [List.getElem_toArray] at h1
    refine ih (j - 1) (by omega) ?_
    rw [List.getElem?_eq_getElem (by omega), ← h1, he]
theorem y27 {xs : List Str} (h : xs.Pairwise fun a b => leS a b = true) : SPw (Go.Lib.compact xs) := by
 unfold Go.Lib.compact Go.Lib.compactUpTo SPw
 rw [List.pairwise_map, List.pairwise_filter]
 have hr := List.pairwise_lt_range (n := xs.length)
 refine List.Pairwise.imp_of_mem (fun {i j} hi hj hij _ hk => ?_) hr
 rw [List.mem_range] at hi hj
 rw [List.pairwise_iff_getElem] at h
 unfold Go.Lib.keeps at hk
 have hk := of_decide_eq_true hk
 rw [getElem!_pos _ i (by simpa using hi), getElem!_pos _ j (by simpa using hj)]
 rw [getElem!_pos _ j (by simpa using hj), getElem!_pos _ (j - 1) (by simp; omega)] at hk
 simp only [List.getElem_toArray] at hk ⊢
 have hne : xs[j] ≠ xs[j - 1] := by
  rcases hk with hk | hk
  ·omega
  ·exact hk
 have h1 : slt xs[j - 1] xs[j] = true := y17 (h (j - 1) j (by omega) hj (by omega)) (Ne.symm hne)
 by_cases e : i = j - 1
 ·subst e; exact h1
 ·exact Cz7 (h i (j - 1) hi (by omega) (by omega)) h1
def FT7 (a b : List Feat) : List Str := (b.foldl (fun v x => h77 x v) a).map (·.id)
theorem y37 {f : Feat} : ∀ {l : List Feat} {i : Str}, i ∈ (h77 f l).map (·.id) ↔ i = f.id ∨ i ∈ l.map (·.id) := by
 intro l i
 have hp := (r57 (f := f) (l := l)).map (·.id)
 rw [hp.mem_iff, List.map_cons, List.mem_cons]
 constructor
 ·rintro (h | h)
  ·exact .inl h
  ·obtain ⟨y, hy, e⟩ := List.mem_map.1 h
   exact .inr (List.mem_map.2 ⟨y, (List.mem_filter.1 hy).1, e⟩)
 ·rintro (h | h)
  ·exact .inl h
  ·by_cases e : i = f.id
   ·exact .inl e
   ·obtain ⟨y, hy, e2⟩ := List.mem_map.1 h
    refine .inr (List.mem_map.2 ⟨y, List.mem_filter.2 ⟨hy, ?_⟩, e2⟩)
    have : ¬ y.id = f.id := fun e3 => e (by rw [← e2, e3])
    simp [this]
theorem pA7 : ∀ {b a : List Feat} {i : Str}, i ∈ (b.foldl (fun v x => h77 x v) a).map (·.id) ↔ i ∈ a.map (·.id) ∨ i ∈ b.map (·.id)
 | [], a, i => by simp
 | x :: b, a, i => by
  rw [List.foldl_cons, pA7, y37, List.map_cons, List.mem_cons]
  constructor
  ·rintro ((h | h) | h)
   ·exact .inr (.inl h)
   ·exact .inl h
   ·exact .inr (.inr h)
  ·rintro (h | h | h)
   ·exact .inl (.inr h)
   ·exact .inl (.inl h)
   ·exact .inr h
theorem th7 : ∀ {b a : List Feat}, Pw a → Pw (b.foldl (fun v x => h77 x v) a)
 | [], a, h => h
 | x :: b, a, h => th7 (b := b) (yY7 h)
theorem Fx7 {a b : List Feat} (h : Pw a) : SPw (FT7 a b) := by
 unfold FT7 SPw
 rw [List.pairwise_map]
 exact th7 h
theorem Bi7 {a b : List Feat} (ha : a.length + b.length ≤ 1000) : qT7 a b = some (FT7 a b) := by
 have k1 : ∀ (l : List Feat) (k : Nat) (v : List Feat), v.length + l.length ≤ 1000 → fw7 l k v = some (l.foldl (fun v x => h77 x v) v) ∧ (l.foldl (fun v x => h77 x v) v).length ≤ v.length + l.length := by
  intro l
  induction l with
  | nil => intro k v _; exact ⟨rfl, by simp⟩
  | cons x l ih =>
   intro k v h
   simp only [List.length_cons] at h
   have hp := iZ7 (f := x) v
   obtain ⟨h1, h2⟩ := ih (k + 1) (h77 x v) (by omega)
   exact ⟨by simp only [fw7, yX7 (s := v) (f := x) (by omega), Option.bind_some, h1, List.foldl_cons], by simp only [List.length_cons, List.foldl_cons]; omega⟩
 have k2 : ∀ (l : List Feat) (k : Nat) (v : List Str), v.length + l.length ≤ 1000 → ef7 l k v = some (v ++ l.map (·.id)) := by
  intro l
  induction l with
  | nil => intro k v _; simp [ef7]
  | cons x l ih =>
   intro k v h
   simp only [List.length_cons] at h
   simp only [ef7]
   rw [if_pos (aa7 (by simp; omega)), ih _ _ (by simp; omega)]
   simp
 obtain ⟨h1, h2⟩ := k1 b 0 a (by omega)
 unfold qT7
 rw [if_pos (aa7 (by omega)), h1, Option.bind_some, if_pos (aa7 (by omega)), k2 _ 0 [] (by simp; omega)]
 rfl
def pB7 (a b : List Pt) : Int := (bf7 a b 0).headD 0
theorem ti7 (a b : List Pt) (i : Nat) : bf7 (a.drop i) b 0 = bf7 a b i := by
 unfold bf7
 rw [List.drop_zero]
theorem r97 (x : Pt) : ∀ (b : List Pt) (ls : List Int) (j : Nat), j ≤ b.length → (mW7 x b ls).drop j = mW7 x (b.drop j) (ls.drop j)
 | b, ls, 0, h => by simp
 | [], ls, j + 1, h => by simp at h
 | y :: b, ls, j + 1, h => by
  have h : j ≤ b.length := by simpa using h
  simp only [mW7, List.drop_succ_cons]
  rw [r97 x b ls.tail j h]
  congr 1
  cases ls <;> simp
theorem sa7 (b : List Pt) (j : Nat) (hj : j ≤ b.length) : ∀ a : List Pt, (bf7 a b 0).drop j = bf7 a (b.drop j) 0
 | [] => by
  rw [show bf7 [] b 0 = List.replicate (b.length + 1) 0 from rfl, show bf7 [] (b.drop j) 0 = List.replicate ((b.drop j).length + 1) 0 from rfl, List.drop_replicate, List.length_drop]
  congr 1
  omega
 | x :: a => by
  have ih := sa7 b j hj a
  have e : ∀ c, bf7 (x :: a) c 0 = mW7 x c (bf7 a c 0) := fun c => rfl
  rw [e, e, r97 x b _ j hj, ih]
theorem tj7 {a b : List Pt} {i j : Nat} (hj : j ≤ b.length) : (bf7 a b i)[j]? = some (pB7 (a.drop i) (b.drop j)) := by
 have e : (bf7 a b i)[j]? = ((bf7 a b i).drop j)[0]? := by simp
 rw [e, ← ti7, sa7 b j hj]
 unfold pB7
 have h : (bf7 (a.drop i) (b.drop j) 0).length = (b.drop j).length + 1 := e17 _ _ (Nat.zero_le _)
 cases hc : bf7 (a.drop i) (b.drop j) 0 with
 | nil => rw [hc] at h; simp at h
 | cons v l => rfl
theorem uS7 {a b : List Pt} {i : Nat} (hi : i ≤ a.length) : (v37 a b)[i]? = some (bf7 a b i) := by
 rw [lJ7, List.getElem?_map, List.getElem?_range (by omega)]
 rfl
theorem wr1 {z : Int} (h0 : -100000 ≤ z) (h1 : z ≤ 100000) : IntKind.i64.wrap z = z := aN7 (by omega) (by omega)
theorem Fy7 {a b : Int} : qU7 a b = some (max a b) := by
 unfold qU7
 by_cases h : a > b
 ·rw [if_pos (decide_eq_true h)]
  congr 1
  omega
 ·rw [if_neg (by simpa using h)]
  congr 1
  omega
theorem uT7 {L : List Int} {j : Nat} {v : Int} (h : L[j]? = some v) : (List.replicate (j + 1) 0 ++ L.drop (j + 1)).set j v = List.replicate j 0 ++ L.drop j := by
 obtain ⟨h1, h2⟩ := List.getElem?_eq_some_iff.1 h
 rw [List.drop_eq_getElem_cons h1, h2, List.replicate_succ', List.append_assoc, List.set_append_right _ _ (by simp)]
 simp
theorem Mr7 {a b : List Pt} {i : Nat} (hi : i < a.length) (ha : a.length ≤ 1000) (hb : b.length ≤ 1000) : ∀ (q N : Nat), q < N → q ≤ b.length → dD7 a (i : Int) b (bf7 a b (i + 1)) N ((q : Int) - 1) (List.replicate q 0 ++ (bf7 a b i).drop q) = some (bf7 a b i)
 | 0, N + 1, h, hq => by
  simp only [dD7]
  rw [if_neg (by simp)]
  simp
 | j + 1, N + 1, h, hq => by
  have hx := List.getElem?_eq_getElem hi
  have hy := List.getElem?_eq_getElem (show j < b.length by omega)
  have hst := e07 (b := b) hx
  have hget := oZ7 a[i] b (bf7 a b (i + 1)) j _ hy
  rw [← hst] at hget
  have hLi := e17 a b (show i ≤ a.length by omega)
  have hLj := e17 a b (show i + 1 ≤ a.length by omega)
  have hv1 := List.getElem?_eq_getElem (show j + 1 < (bf7 a b (i + 1)).length by omega)
  have hv0 := List.getElem?_eq_getElem (show j < (bf7 a b (i + 1)).length by omega)
  have hv2 := List.getElem?_eq_getElem (show j + 1 < (bf7 a b i).length by omega)
  have hb1 := sS7 a b _ (i + 1) (by omega) rfl _ _ hv1
  have e0 : ((j + 1 : Nat) : Int) - 1 = (j : Int) := by omega
  have e1 : IntKind.i64.wrap ((j : Int) + 1) = ((j + 1 : Nat) : Int) := by rw [wr1 (by omega) (by omega)]; omega
  have e2 : IntKind.i64.wrap ((j : Int) - 1) = (j : Int) - 1 := wr1 (by omega) (by omega)
  have hu : (List.replicate (j + 1) 0 ++ (bf7 a b i).drop (j + 1))[j]? = some 0 := by
   rw [List.getElem?_append_left (by simp), List.getElem?_replicate, if_pos (by omega)]
  have hu2 : (List.replicate (j + 1) 0 ++ (bf7 a b i).drop (j + 1))[j + 1]? = some (bf7 a b i)[j + 1] := by
   rw [List.getElem?_append_right (by simp)]
   simp
  rw [hv1, hv0, hv2] at hget
  simp only [Option.getD_some] at hget
  simp only [dD7]
  rw [e0, if_pos (decide_eq_true (by omega)), ag7, hx, Option.bind_some, ag7, hy, Option.bind_some, e1, e2]
  have ih := Mr7 hi ha hb j N (by omega) (by omega)
  split
  ·rename_i hp
   rw [if_pos hp] at hget
   rw [ag7, hv1, Option.bind_some, ag7, hu, Option.bind_some, wr1 (by omega) (by omega), Int.toNat_natCast, uT7 hget]
   exact ih
  ·rename_i hp
   rw [if_neg hp] at hget
   rw [ag7, hv0, Option.bind_some, ag7, hu2, Option.bind_some, Fy7, Option.bind_some, ag7, hu, Option.bind_some, Int.toNat_natCast, uT7 hget]
   exact ih
theorem Ms7 {a b : List Pt} (ha : a.length ≤ 1000) (hb : b.length ≤ 1000) : ∀ (m N : Nat), m < N → m ≤ a.length → eh7 b a N ((m : Int) - 1) (bf7 a b m) = some (bf7 a b 0)
 | 0, N + 1, h, hm => by
  simp only [eh7]
  rw [if_neg (by simp)]
 | i + 1, N + 1, h, hm => by
  have e0 : ((i + 1 : Nat) : Int) - 1 = (i : Int) := by omega
  have e1 : IntKind.i64.wrap ((b.length : Int) + 1) = ((b.length + 1 : Nat) : Int) := by rw [wr1 (by omega) (by omega)]; omega
  have e2 : IntKind.i64.wrap ((b.length : Int) - 1) = (b.length : Int) - 1 := wr1 (by omega) (by omega)
  have e3 : IntKind.i64.wrap ((i : Int) - 1) = (i : Int) - 1 := wr1 (by omega) (by omega)
  have hl := nM7 a b (show i ≤ a.length by omega)
  obtain ⟨h1, h2⟩ := List.getElem?_eq_some_iff.1 hl
  have hLi := e17 a b (show i ≤ a.length by omega)
  have e4 : List.replicate (b.length + 1) (0 : Int) = List.replicate b.length 0 ++ (bf7 a b i).drop b.length := by
   rw [List.drop_eq_getElem_cons h1, h2, List.drop_eq_nil_of_le (by omega), List.replicate_succ']
  have h5 := Mr7 (show i < a.length by omega) ha hb b.length aT7 (by unfold aT7; omega) (Nat.le_refl _)
  simp only [eh7]
  rw [e0, if_pos (decide_eq_true (by omega)), e1, e2, Int.toNat_natCast, if_pos (by rw [aa7 (by omega), Bool.and_true]; exact decide_eq_true (by omega)), e4, h5, Option.bind_some, e3]
  exact Ms7 ha hb i N (by omega) (by omega)
theorem uU7 {a b : List Pt} (ha : a.length ≤ 1000) (hb : b.length ≤ 1000) : nP7 a b = some (pB7 a b) := by
 have e1 : IntKind.i64.wrap ((b.length : Int) + 1) = ((b.length + 1 : Nat) : Int) := by rw [wr1 (by omega) (by omega)]; omega
 have e2 : IntKind.i64.wrap ((a.length : Int) - 1) = (a.length : Int) - 1 := wr1 (by omega) (by omega)
 unfold nP7
 have h4 := Ms7 ha hb a.length aT7 (by unfold aT7; omega) (Nat.le_refl _)
 rw [gA7] at h4
 have h0 := tj7 (a := a) (b := b) (i := 0) (Nat.zero_le b.length)
 rw [e1, e2, Int.toNat_natCast, if_pos (by rw [aa7 (by omega), Bool.and_true]; exact decide_eq_true (by omega)), h4, Option.bind_some, show idx (bf7 a b 0) 0 = (bf7 a b 0)[0]? from ag7 (k := 0), h0]
 rfl
def prs (a b : List Pt) : Nat → Nat → Nat → List cM7
 | 0, _, _ => []
 | n + 1, i, k => match a[i]?, b[k]? with
  | some x, some y => if x = y then ⟨(i : Int), (k : Int)⟩ :: prs a b n (i + 1) (k + 1) else if pB7 (a.drop i) (b.drop (k + 1)) ≤ pB7 (a.drop (i + 1)) (b.drop k) then prs a b n (i + 1) k else prs a b n i (k + 1)
  | _, _ => []
def gL7 (a b : List Pt) : List cM7 := prs a b (a.length + b.length) 0 0
theorem pC7 {a b : List Pt} {n i k : Nat} (h : a.length ≤ i ∨ b.length ≤ k) : prs a b n i k = [] := by
 cases n with
 | zero => rfl
 | succ n =>
  rcases h with h | h
  ·simp only [prs, List.getElem?_eq_none h]
  ·simp only [prs, List.getElem?_eq_none h]
   cases a[i]? <;> rfl
theorem Bj7 {a b : List Pt} (ha : a.length ≤ 12) (hb : b.length ≤ 12) : ∀ (n N i k : Nat) (acc : List cM7), n < N → a.length + b.length ≤ n + i + k → i ≤ a.length → k ≤ b.length → acc.length ≤ i → dF7 a b (v37 a b) N (i : Int) (k : Int) acc = some (acc ++ prs a b n i k)
 | n, N + 1, i, k, acc, hN, hn, hi, hk, hacc => by
  simp only [dF7]
  by_cases h1 : i < a.length
  case neg =>
   rw [if_neg (by simp; omega), pC7 (.inl (by omega)), List.append_nil]
  by_cases h2 : k < b.length
  case neg =>
   rw [if_pos (decide_eq_true (by omega)), if_neg (by simp; omega), pC7 (.inr (by omega)), List.append_nil]
  have hx := List.getElem?_eq_getElem h1
  have hy := List.getElem?_eq_getElem h2
  have e1 : IntKind.i64.wrap ((i : Int) + 1) = ((i + 1 : Nat) : Int) := by rw [wr1 (by omega) (by omega)]; omega
  have e2 : IntKind.i64.wrap ((k : Int) + 1) = ((k + 1 : Nat) : Int) := by rw [wr1 (by omega) (by omega)]; omega
  obtain ⟨n, rfl⟩ : ∃ m, n = m + 1 := ⟨n - 1, by omega⟩
  rw [if_pos (decide_eq_true (by omega)), if_pos (decide_eq_true (by omega)), ag7, hx, Option.bind_some, ag7, hy, Option.bind_some, ptb, e1, e2]
  simp only [prs, hx, hy]
  by_cases he : a[i] = b[k]
  ·rw [if_pos (decide_eq_true he), if_pos he, if_pos (aa7 (by simp; omega)), Bj7 ha hb n N (i + 1) (k + 1) _ (by omega) (by omega) (by omega) (by omega) (by simp; omega)]
   simp
  ·rw [if_neg (by simp [he]), if_neg he, ag7, uS7 (by omega), Option.bind_some, ag7, tj7 (by omega), Option.bind_some, ag7, uS7 (by omega), Option.bind_some, ag7, tj7 (by omega), Option.bind_some]
   by_cases hg : pB7 (a.drop i) (b.drop (k + 1)) ≤ pB7 (a.drop (i + 1)) (b.drop k)
   ·rw [if_pos (decide_eq_true hg), if_pos hg]
    exact Bj7 ha hb n N (i + 1) k acc (by omega) (by omega) (by omega) (by omega) (by omega)
   ·rw [if_neg (by simpa using hg), if_neg hg]
    exact Bj7 ha hb n N i (k + 1) acc (by omega) (by omega) (by omega) (by omega) (by omega)
theorem gM7 {α : Type} {xs : List α} {i : Nat} (h : i ≤ xs.length) : slc xs (i : Int) (xs.length : Int) = some (xs.drop i) := by
 unfold slc
 rw [if_pos ⟨by omega, by omega, by omega⟩]
 simp
theorem kr7 {α : Type} {xs : List α} {i j : Nat} (h : i ≤ j) (hj : j ≤ xs.length) : slc xs (i : Int) (j : Int) = some ((xs.take j).drop i) := by
 unfold slc
 rw [if_pos ⟨by omega, by omega, by omega⟩]
 simp
theorem Fz7 {a b : List Pt} : qV7 a b = some (decide (a.length ≤ 12) && decide (b.length ≤ 12)) := by
 unfold qV7
 rw [show decide ((a.length : Int) ≤ 12) = decide (a.length ≤ 12) from D27, show decide ((b.length : Int) ≤ 12) = decide (b.length ≤ 12) from D27]
 by_cases h : a.length ≤ 12 <;> simp [h]
theorem Bk7 {a b : List Pt} (ha : a.length ≤ 12) (hb : b.length ≤ 12) : ∀ (n N i k : Nat) (acc : List cM7), n < N → a.length + b.length ≤ n + i + k → i ≤ a.length → k ≤ b.length → acc.length ≤ i → dE7 a b N (i : Int) (k : Int) acc = some (acc ++ prs a b n i k)
 | n, N + 1, i, k, acc, hN, hn, hi, hk, hacc => by
  simp only [dE7]
  by_cases h1 : i < a.length
  case neg =>
   rw [if_neg (by simp; omega), pC7 (.inl (by omega)), List.append_nil]
  by_cases h2 : k < b.length
  case neg =>
   rw [if_pos (decide_eq_true (by omega)), if_neg (by simp; omega), pC7 (.inr (by omega)), List.append_nil]
  have hx := List.getElem?_eq_getElem h1
  have hy := List.getElem?_eq_getElem h2
  have e1 : IntKind.i64.wrap ((i : Int) + 1) = ((i + 1 : Nat) : Int) := by rw [wr1 (by omega) (by omega)]; omega
  have e2 : IntKind.i64.wrap ((k : Int) + 1) = ((k + 1 : Nat) : Int) := by rw [wr1 (by omega) (by omega)]; omega
  obtain ⟨n, rfl⟩ : ∃ m, n = m + 1 := ⟨n - 1, by omega⟩
  rw [if_pos (decide_eq_true (by omega)), if_pos (decide_eq_true (by omega)), Fz7, Option.bind_some, if_pos (by simp [ha, hb]), ag7, hx, Option.bind_some, ag7, hy, Option.bind_some, ptb, e1, e2]
  simp only [prs, hx, hy]
  by_cases he : a[i] = b[k]
  ·rw [if_pos (decide_eq_true he), if_pos he, if_pos (aa7 (by simp; omega)), Bk7 ha hb n N (i + 1) (k + 1) _ (by omega) (by omega) (by omega) (by omega) (by simp; omega)]
   simp
  ·have d1 : ∀ i, (a.drop i).length ≤ 1000 := fun i => by rw [List.length_drop]; omega
   have d2 : ∀ i, (b.drop i).length ≤ 1000 := fun i => by rw [List.length_drop]; omega
   rw [if_neg (by simp [he]), if_neg he, gM7 (by omega), Option.bind_some, gM7 (by omega), Option.bind_some, uU7 (d1 _) (d2 _), Option.bind_some, gM7 (by omega), Option.bind_some, gM7 (by omega), Option.bind_some, uU7 (d1 _) (d2 _), Option.bind_some]
   by_cases hg : pB7 (a.drop i) (b.drop (k + 1)) ≤ pB7 (a.drop (i + 1)) (b.drop k)
   ·rw [if_pos (decide_eq_true hg), if_pos hg]
    exact Bk7 ha hb n N (i + 1) k acc (by omega) (by omega) (by omega) (by omega) (by omega)
   ·rw [if_neg (by simpa using hg), if_neg hg]
    exact Bk7 ha hb n N i (k + 1) acc (by omega) (by omega) (by omega) (by omega) (by omega)
theorem or7 {a b : List Pt} (ha : a.length ≤ 12) (hb : b.length ≤ 12) : n07 a b = some (gL7 a b) := by
 unfold n07 Co7
 rw [if_neg (by simp; omega), if_neg (by simp; omega)]
 have h : vD7 a b = some (v37 a b) := by
  unfold vD7
  rw [if_pos (by simp; omega)]
 have h2 := Bj7 ha hb (a.length + b.length) aT7 0 0 [] (by unfold aT7; omega) (by omega) (by omega) (by omega) (by simp)
 rw [h, Option.bind_some]
 exact congrArg (fun o => Option.bind o fun q => some q) h2
theorem os7 {a b : List Pt} (ha : a.length ≤ 12) (hb : b.length ≤ 12) : nQ7 a b = some (gL7 a b) := by
 unfold nQ7
 have h2 := Bk7 ha hb (a.length + b.length) aT7 0 0 [] (by unfold aT7; omega) (by omega) (by omega) (by omega) (by simp)
 exact congrArg (fun o => Option.bind o fun q => some q) h2
def prt (p : List cM7) (i : Nat) : Option Nat := (p.find? fun q => decide (q.a = (i : Int))).map fun q => q.b.toNat
def pick (o a b : List Pt) : Option (List Pt) := if a = o then some b else if b = o then some a else if a = b then some a else none
def mI7 (l : List Pt) (i j : Nat) : List Pt := (l.take j).drop i
def mg (o a b : List Pt) (pa pb : List cM7) : Nat → Nat → Nat → Nat → Nat → List Pt → Option (List Pt)
 | 0, at_, i, j, k, out => (pick (mI7 o i at_) (a.drop j) (b.drop k)).map fun p => out ++ p
 | n + 1, at_, i, j, k, out => match prt pa at_, prt pb at_ with
  | some x, some y => (pick (mI7 o i at_) (mI7 a j x) (mI7 b k y)).bind fun p => mg o a b pa pb n (at_ + 1) (at_ + 1) (x + 1) (y + 1) (out ++ p ++ (o[at_]?).toList)
  | _, _ => mg o a b pa pb n (at_ + 1) i j k out
def ks7 (o a b : List Pt) : Option (List Pt) := mg o a b (gL7 o a) (gL7 o b) o.length 0 0 0 0 []
theorem sb7 {a b : List Pt} : ∀ (n i k : Nat) (q : cM7), q ∈ prs a b n i k → ∃ u v : Nat, q = ⟨(u : Int), (v : Int)⟩ ∧ i ≤ u ∧ u < a.length ∧ k ≤ v ∧ v < b.length
 | 0, i, k, q, h => by simp [prs] at h
 | n + 1, i, k, q, h => by
  simp only [prs] at h
  split at h
  ·rename_i x y hx hy
   have h1 := (List.getElem?_eq_some_iff.1 hx).1
   have h2 := (List.getElem?_eq_some_iff.1 hy).1
   split at h
   ·rcases List.mem_cons.1 h with rfl | h
    ·exact ⟨i, k, rfl, Nat.le_refl _, h1, Nat.le_refl _, h2⟩
    ·obtain ⟨u, v, e, g1, g2, g3, g4⟩ := sb7 n _ _ q h
     exact ⟨u, v, e, by omega, g2, by omega, g4⟩
   ·split at h
    ·obtain ⟨u, v, e, g1, g2, g3, g4⟩ := sb7 n _ _ q h
     exact ⟨u, v, e, by omega, g2, by omega, g4⟩
    ·obtain ⟨u, v, e, g1, g2, g3, g4⟩ := sb7 n _ _ q h
     exact ⟨u, v, e, by omega, g2, by omega, g4⟩
  ·simp at h
def UpP (p : List cM7) : Prop := p.Pairwise fun q r => q.a < r.a ∧ q.b < r.b
theorem y47 {a b : List Pt} : ∀ (n i k : Nat), UpP (prs a b n i k)
 | 0, i, k => .nil
 | n + 1, i, k => by
  simp only [prs]
  split
  ·split
   ·refine List.Pairwise.cons (fun q hq => ?_) (y47 n _ _)
    obtain ⟨u, v, rfl, g1, g2, g3, g4⟩ := sb7 n _ _ q hq
    simp only
    omega
   ·split <;> exact y47 n _ _
  ·exact .nil
structure OkP (p : List cM7) (n : Nat) : Prop where
 up : UpP p
 rg : ∀ q, q ∈ p → 0 ≤ q.a ∧ 0 ≤ q.b ∧ q.b < n
theorem cH7 (a b : List Pt) : OkP (gL7 a b) b.length := ⟨y47 _ _ _, fun q hq => by
 obtain ⟨u, v, rfl, g1, g2, g3, g4⟩ := sb7 _ _ _ q hq
 simp only
 omega⟩
theorem g67 {a b : List Pt} (ha : a.length ≤ 12) : (gL7 a b).length ≤ 12 := by
 have : ∀ n i k, i ≤ a.length → (prs a b n i k).length ≤ a.length - i := by
  intro n
  induction n with
  | zero => intro i k h; simp [prs]
  | succ n ih =>
   intro i k h
   simp only [prs]
   split
   ·rename_i x y hx hy
    have h1 := (List.getElem?_eq_some_iff.1 hx).1
    split
    ·have := ih (i + 1) (k + 1) (by omega)
     simp only [List.length_cons]
     omega
    ·split
     ·have := ih (i + 1) k (by omega)
      omega
     ·exact ih i (k + 1) h
   ·simp
 have := this (a.length + b.length) 0 0 (Nat.zero_le _)
 unfold gL7
 omega
theorem y57 : ∀ {p : List cM7} {q r : cM7}, UpP p → q ∈ p → r ∈ p → q.a < r.a → q.b < r.b
 | [], q, r, h, hq, hr, e => by simp at hq
 | x :: p, q, r, h, hq, hr, e => by
  obtain ⟨h1, h2⟩ := List.pairwise_cons.1 h
  rcases List.mem_cons.1 hq with hq1 | hq1 <;> rcases List.mem_cons.1 hr with hr1 | hr1
  ·rw [hq1, hr1] at e; omega
  ·rw [hq1]; exact (h1 r hr1).2
  ·rw [hr1] at e; have := (h1 q hq1).1; omega
  ·exact y57 h2 hq1 hr1 e
theorem g77 {p : List cM7} {n i v : Nat} (h : OkP p n) (hv : prt p i = some v) : v < n ∧ ∃ q, q ∈ p ∧ q.a = (i : Int) ∧ q.b = (v : Int) := by
 unfold prt at hv
 cases hf : p.find? fun q => decide (q.a = (i : Int)) with
 | none => rw [hf] at hv; cases hv
 | some q =>
  rw [hf] at hv
  simp only [Option.map_some, Option.some.injEq] at hv
  have hm := List.mem_of_find?_eq_some hf
  have ha : q.a = (i : Int) := by simpa using List.find?_some hf
  have hr := h.rg q hm
  exact ⟨by omega, q, hm, ha, by omega⟩
def Bh (p : List cM7) (at_ j : Nat) : Prop := ∀ q, q ∈ p → (at_ : Int) ≤ q.a → (j : Int) ≤ q.b
theorem Bh.skip {p : List cM7} {at_ j : Nat} (h : Bh p at_ j) : Bh p (at_ + 1) j := fun q hq h2 => h q hq (by omega)
theorem Bh.hit {p : List cM7} {n at_ v : Nat} (h : OkP p n) (hv : prt p at_ = some v) : Bh p (at_ + 1) (v + 1) := fun q hq h2 => by
 obtain ⟨_, r, hr, e1, e2⟩ := g77 h hv
 have := y57 h.up hr hq (by omega)
 omega
theorem Bh.le {p : List cM7} {n at_ j v : Nat} (hb : Bh p at_ j) (h : OkP p n) (hv : prt p at_ = some v) : j ≤ v := by
 obtain ⟨_, r, hr, e1, e2⟩ := g77 h hv
 have := hb r hr (by omega)
 omega
def Bl7 (p : List cM7) (i : Nat) : Int := match prt p i with
 | some v => (v : Int)
 | none => -1
theorem sc7 {x : cM7} {l : List cM7} {i : Nat} (hx : 0 ≤ x.b) : Bl7 (x :: l) i = if (x.a == (i : Int)) = true then x.b else Bl7 l i := by
 unfold Bl7 prt
 by_cases e : x.a = (i : Int)
 ·rw [List.find?_cons_of_pos (by simpa using e), if_pos (by simpa using e)]
  simp only [Option.map_some]
  omega
 ·rw [List.find?_cons_of_neg (by simpa using e), if_neg (by simpa using e)]
theorem sd7 {p : List cM7} {i n : Nat} (h : OkP p n) (hl : p.length ≤ 1048576) : n17 p (i : Int) = some (Bl7 p i) := by
 unfold n17
 rw [if_pos (aa7 hl)]
 have key : ∀ (l : List cM7) (k : Nat), (∀ q, q ∈ l → 0 ≤ q.b) → ((fM7 (i : Int) l k).bind fun q => match q with | .inl r => some r | .inr q11 => some (-1)) = some (Bl7 l i) := by
  intro l
  induction l with
  | nil => intro k _; rfl
  | cons x l ih =>
   intro k hq
   simp only [fM7]
   rw [sc7 (hq x (by simp))]
   by_cases e : (x.a == (i : Int)) = true
   ·rw [if_pos e, if_pos e]; rfl
   ·rw [if_neg e, if_neg e]
    exact ih (k + 1) fun q h => hq q (by simp [h])
 exact key p 0 fun q hq => (h.rg q hq).2.1
theorem CA7 {p : List cM7} {i n : Nat} (h : OkP p n) (hl : p.length ≤ 1048576) : nR7 p (i : Int) = some (Bl7 p i) := by
 unfold nR7
 rw [if_pos (aa7 hl)]
 have key : ∀ (l : List cM7) (k : Nat), (∀ q, q ∈ l → 0 ≤ q.b) → ((fx7 (i : Int) l k).bind fun q => match q with | .inl r => some r | .inr q8 => some (-1)) = some (Bl7 l i) := by
  intro l
  induction l with
  | nil => intro k _; rfl
  | cons x l ih =>
   intro k hq
   simp only [fx7]
   rw [sc7 (hq x (by simp))]
   by_cases e : (x.a == (i : Int)) = true
   ·rw [if_pos e, if_pos e]; rfl
   ·rw [if_neg e, if_neg e]
    exact ih (k + 1) fun q h => hq q (by simp [h])
 exact key p 0 fun q hq => (h.rg q hq).2.1
def Bm7 (o a b : List Pt) : List Pt × Bool := match pick o a b with
 | some p => (p, true)
 | none => ([], false)
theorem uV7 {o a b : List Pt} (ha : a.length ≤ 1048576) (hb : b.length ≤ 1048576) : nS7 o a b = some (Bm7 o a b) := by
 unfold nS7 Bm7 pick
 rw [kV7 ha, Option.bind_some]
 by_cases h1 : a = o
 ·rw [if_pos (decide_eq_true h1), if_pos h1]
 ·rw [if_neg (by simp [h1]), if_neg h1, kV7 hb, Option.bind_some]
  by_cases h2 : b = o
  ·rw [if_pos (decide_eq_true h2), if_pos h2]
  ·rw [if_neg (by simp [h2]), if_neg h2, kV7 ha, Option.bind_some]
   by_cases h3 : a = b
   ·rw [if_pos (decide_eq_true h3), if_pos h3]
   ·rw [if_neg (by simp [h3]), if_neg h3]
theorem CB7 {o a b out : List Pt} (ha : a.length ≤ 12) (hb : b.length ≤ 12) (ho : out.length ≤ 1000) : ((e37 a o).bind fun x778 => if x778 = true then (if aH7 (out ++ b).length = true then some (.inr (out ++ b)) else none) else ((e37 b o).bind fun x783 => if x783 = true then (if aH7 (out ++ a).length = true then some (.inr (out ++ a)) else none) else ((e37 a b).bind fun x785 => if x785 = true then (if aH7 (out ++ a).length = true then some (.inr (out ++ a)) else none) else (some (.inl (([] : (List Pt)), false))))) : Option (((List Pt) × Bool) ⊕ (List Pt))) =
  some (match pick o a b with | some p => .inr (out ++ p) | none => .inl ([], false)) := by
 unfold pick
 rw [uD7 (by omega), Option.bind_some]
 by_cases h1 : a = o
 ·rw [if_pos (decide_eq_true h1), if_pos h1, if_pos (aa7 (by simp; omega))]
 ·rw [if_neg (by simp [h1]), if_neg h1, uD7 (by omega), Option.bind_some]
  by_cases h2 : b = o
  ·rw [if_pos (decide_eq_true h2), if_pos h2, if_pos (aa7 (by simp; omega))]
  ·rw [if_neg (by simp [h2]), if_neg h2, uD7 (by omega), Option.bind_some]
   by_cases h3 : a = b
   ·rw [if_pos (decide_eq_true h3), if_pos h3, if_pos (aa7 (by simp; omega))]
   ·rw [if_neg (by simp [h3]), if_neg h3]
def mgR (r : Option (List Pt)) : (List Pt × Bool) ⊕ List Pt := match r with
 | some p => .inr p
 | none => .inl ([], false)
theorem dm7 {l : List Pt} {i j : Nat} (h : l.length ≤ 12) : (mI7 l i j).length ≤ 12 := by
 unfold mI7
 rw [List.length_drop, List.length_take]
 omega
theorem i07 {o a b p : List Pt} (ha : a.length ≤ 12) (hb : b.length ≤ 12) (h : pick o a b = some p) : p.length ≤ 12 := by
 unfold pick at h
 split at h
 ·cases h; exact hb
 ·split at h
  ·cases h; exact ha
  ·split at h
   ·cases h; exact ha
   ·cases h
section
variable {o a b : List Pt} {pa pb : List cM7}
theorem MO7 (ho : o.length ≤ 12) (ha : a.length ≤ 12) (hb : b.length ≤ 12) (hpa : OkP pa a.length) (hpb : OkP pb b.length) (la : pa.length ≤ 12) (lb : pb.length ≤ 12) : ∀ (n N at_ i j k : Nat) (out : List Pt), n + 1 < N → n + at_ = o.length → i ≤ at_ → j ≤ a.length → k ≤ b.length → Bh pa at_ j → Bh pb at_ k → out.length ≤ 13 * at_ →
  eu7 o pa pb a b N (i : Int) (j : Int) (k : Int) (at_ : Int) out = some (mgR (mg o a b pa pb n at_ i j k out))
 | 0, N + 2, at_, i, j, k, out, hN, hn, hi, hj, hk, ba, bb, hout => by
  simp only [eu7]
  rw [if_pos (decide_eq_true (by omega)), if_neg (by simp; omega), kr7 hi (by omega), Option.bind_some, gM7 hj, Option.bind_some, gM7 hk, Option.bind_some, CB7 (by rw [List.length_drop]; omega) (by rw [List.length_drop]; omega) (by omega), Option.bind_some]
  simp only [mg]
  unfold mI7
  cases hp : pick ((o.take at_).drop i) (a.drop j) (b.drop k) with
  | none => rfl
  | some p =>
   simp only
   rw [if_neg (by simp; omega)]
   simp only [Option.bind_some]
   rw [show IntKind.i64.wrap ((at_ : Int) + 1) = ((at_ + 1 : Nat) : Int) by rw [wr1 (by omega) (by omega)]; omega, if_neg (by simp; omega)]
   rfl
 | n + 1, N + 1, at_, i, j, k, out, hN, hn, hi, hj, hk, ba, bb, hout => by
  have ew : IntKind.i64.wrap ((at_ : Int) + 1) = ((at_ + 1 : Nat) : Int) := by rw [wr1 (by omega) (by omega)]; omega
  simp only [eu7]
  rw [if_pos (decide_eq_true (by omega)), if_pos (decide_eq_true (by omega)), sd7 hpa (by omega), Option.bind_some, sd7 hpb (by omega), Option.bind_some]
  simp only [mg]
  unfold Bl7
  cases hx : prt pa at_ with
  | none =>
   simp only
   rw [if_pos (by decide)]
   simp only [Option.bind_some, ew]
   exact MO7 ho ha hb hpa hpb la lb n N _ _ _ _ _ (by omega) (by omega) (by omega) hj hk ba.skip bb.skip (by omega)
  | some x =>
   cases hy : prt pb at_ with
   | none =>
    simp only
    rw [if_neg (by simp), if_pos (by decide)]
    simp only [Option.bind_some, ew]
    exact MO7 ho ha hb hpa hpb la lb n N _ _ _ _ _ (by omega) (by omega) (by omega) hj hk ba.skip bb.skip (by omega)
   | some y =>
    have x1 := (g77 hpa hx).1
    have y1 := (g77 hpb hy).1
    have x2 := ba.le hpa hx
    have y2 := bb.le hpb hy
    have ho1 := List.getElem?_eq_getElem (show at_ < o.length by omega)
    simp only
    rw [if_neg (by simp), if_neg (by simp), kr7 hi (by omega), Option.bind_some, kr7 x2 (by omega), Option.bind_some, kr7 y2 (by omega), Option.bind_some, CB7 (o := (o.take at_).drop i) (a := (a.take x).drop j) (b := (b.take y).drop k) (dm7 ha) (dm7 hb) (by omega), Option.bind_some]
    show _ = some (mgR ((pick (mI7 o i at_) (mI7 a j x) (mI7 b k y)).bind _))
    unfold mI7
    cases hp : pick ((o.take at_).drop i) ((a.take x).drop j) ((b.take y).drop k) with
    | none => rfl
    | some p =>
     have hpl := i07 (dm7 (i := j) (j := x) ha) (dm7 (i := k) (j := y) hb) hp
     simp only
     rw [if_pos (decide_eq_true (by omega)), ag7, ho1, Option.bind_some, if_pos (aa7 (by simp; omega))]
     simp only [Option.bind_some, ew, ho1, Option.toList_some]
     rw [show IntKind.i64.wrap ((x : Int) + 1) = ((x + 1 : Nat) : Int) by rw [wr1 (by omega) (by omega)]; omega, show IntKind.i64.wrap ((y : Int) + 1) = ((y + 1 : Nat) : Int) by rw [wr1 (by omega) (by omega)]; omega]
     exact MO7 ho ha hb hpa hpb la lb n N _ _ _ _ _ (by omega) (by omega) (by omega) (by omega) (by omega) (Bh.hit hpa hx) (Bh.hit hpb hy) (by simp; omega)
theorem MP7 (ho : o.length ≤ 12) (ha : a.length ≤ 12) (hb : b.length ≤ 12) (hpa : OkP pa a.length) (hpb : OkP pb b.length) (la : pa.length ≤ 12) (lb : pb.length ≤ 12) : ∀ (n N at_ i j k : Nat) (out : List Pt), n + 1 < N → n + at_ = o.length → i ≤ at_ → j ≤ a.length → k ≤ b.length → Bh pa at_ j → Bh pb at_ k → out.length ≤ 13 * at_ →
  ei7 o pa pb a b N (i : Int) (j : Int) (k : Int) (at_ : Int) out = some (mgR (mg o a b pa pb n at_ i j k out))
 | 0, N + 2, at_, i, j, k, out, hN, hn, hi, hj, hk, ba, bb, hout => by
  simp only [ei7]
  rw [if_pos (decide_eq_true (by omega)), if_neg (by simp; omega), kr7 hi (by omega), Option.bind_some, gM7 hj, Option.bind_some, gM7 hk, Option.bind_some, uV7 (by rw [List.length_drop]; omega) (by rw [List.length_drop]; omega), Option.bind_some]
  simp only [mg]
  unfold mI7 Bm7
  cases hp : pick ((o.take at_).drop i) (a.drop j) (b.drop k) with
  | none => rfl
  | some p =>
   have hpl := i07 (by rw [List.length_drop]; omega) (by rw [List.length_drop]; omega) hp
   simp only
   rw [if_neg (by decide), if_pos (aa7 (by simp; omega)), if_neg (by simp; omega)]
   simp only [Option.bind_some]
   rw [show IntKind.i64.wrap ((at_ : Int) + 1) = ((at_ + 1 : Nat) : Int) by rw [wr1 (by omega) (by omega)]; omega, if_neg (by simp; omega)]
   rfl
 | n + 1, N + 1, at_, i, j, k, out, hN, hn, hi, hj, hk, ba, bb, hout => by
  have ew : IntKind.i64.wrap ((at_ : Int) + 1) = ((at_ + 1 : Nat) : Int) := by rw [wr1 (by omega) (by omega)]; omega
  simp only [ei7]
  rw [if_pos (decide_eq_true (by omega)), if_pos (decide_eq_true (by omega)), CA7 hpa (by omega), Option.bind_some, CA7 hpb (by omega), Option.bind_some]
  simp only [mg]
  unfold Bl7
  cases hx : prt pa at_ with
  | none =>
   simp only
   rw [if_pos (by decide)]
   simp only [Option.bind_some, ew]
   exact MP7 ho ha hb hpa hpb la lb n N _ _ _ _ _ (by omega) (by omega) (by omega) hj hk ba.skip bb.skip (by omega)
  | some x =>
   cases hy : prt pb at_ with
   | none =>
    simp only
    rw [if_neg (by simp), if_pos (by decide)]
    simp only [Option.bind_some, ew]
    exact MP7 ho ha hb hpa hpb la lb n N _ _ _ _ _ (by omega) (by omega) (by omega) hj hk ba.skip bb.skip (by omega)
   | some y =>
    have x1 := (g77 hpa hx).1
    have y1 := (g77 hpb hy).1
    have x2 := ba.le hpa hx
    have y2 := bb.le hpb hy
    have ho1 := List.getElem?_eq_getElem (show at_ < o.length by omega)
    simp only
    rw [if_neg (by simp), if_neg (by simp), kr7 hi (by omega), Option.bind_some, kr7 x2 (by omega), Option.bind_some, kr7 y2 (by omega), Option.bind_some, uV7 (o := (o.take at_).drop i) (a := (a.take x).drop j) (b := (b.take y).drop k) (by have := dm7 (i := j) (j := x) ha; unfold mI7 at this; omega) (by have := dm7 (i := k) (j := y) hb; unfold mI7 at this; omega), Option.bind_some]
    show _ = some (mgR ((pick (mI7 o i at_) (mI7 a j x) (mI7 b k y)).bind _))
    unfold mI7 Bm7
    cases hp : pick ((o.take at_).drop i) ((a.take x).drop j) ((b.take y).drop k) with
    | none => rfl
    | some p =>
     have hpl := i07 (dm7 (i := j) (j := x) ha) (dm7 (i := k) (j := y) hb) hp
     simp only
     rw [if_neg (by decide), if_pos (aa7 (by simp; omega)), if_pos (decide_eq_true (by omega)), ag7, ho1, Option.bind_some, if_pos (aa7 (by simp; omega))]
     simp only [Option.bind_some, ew, ho1, Option.toList_some]
     rw [show IntKind.i64.wrap ((x : Int) + 1) = ((x + 1 : Nat) : Int) by rw [wr1 (by omega) (by omega)]; omega, show IntKind.i64.wrap ((y : Int) + 1) = ((y + 1 : Nat) : Int) by rw [wr1 (by omega) (by omega)]; omega]
     exact MP7 ho ha hb hpa hpb la lb n N _ _ _ _ _ (by omega) (by omega) (by omega) (by omega) (by omega) (Bh.hit hpa hx) (Bh.hit hpb hy) (by simp; omega)
end
def jK7 (o a b : List Pt) : List Pt × Bool := match ks7 o a b with
 | some p => (p, true)
 | none => ([], false)
theorem vX7 {o a b : List Pt} (ho : o.length ≤ 12) (ha : a.length ≤ 12) (hb : b.length ≤ 12) : n27 o a b = some (jK7 o a b) := by
 unfold n27 jK7 ks7
 have h := MO7 ho ha hb (cH7 o a) (cH7 o b) (g67 ho) (g67 ho) o.length aT7 0 0 0 0 [] (by unfold aT7; omega) (by omega) (by omega) (by omega) (by omega) (fun q hq _ => (cH7 o a).rg q hq |>.2.1) (fun q hq _ => (cH7 o b).rg q hq |>.2.1) (by simp)
 rw [if_neg (by simp; omega), if_neg (by simp; omega), if_neg (by simp; omega), or7 ho ha, Option.bind_some, or7 ho hb, Option.bind_some]
 refine (congrArg (fun z => Option.bind z _) h).trans ?_
 cases mg o a b (gL7 o a) (gL7 o b) o.length 0 0 0 0 [] <;> rfl
theorem y67 {o a b : List Pt} (ho : o.length ≤ 12) (ha : a.length ≤ 12) (hb : b.length ≤ 12) : qW7 o a b = some (jK7 o a b) := by
 unfold qW7 jK7 ks7
 have h := MP7 ho ha hb (cH7 o a) (cH7 o b) (g67 ho) (g67 ho) o.length aT7 0 0 0 0 [] (by unfold aT7; omega) (by omega) (by omega) (by omega) (by omega) (fun q hq _ => (cH7 o a).rg q hq |>.2.1) (fun q hq _ => (cH7 o b).rg q hq |>.2.1) (by simp)
 rw [os7 ho ha, Option.bind_some, os7 ho hb, Option.bind_some]
 refine (congrArg (fun z => Option.bind z _) h).trans ?_
 cases mg o a b (gL7 o a) (gL7 o b) o.length 0 0 0 0 [] <;> rfl
def c07 (ts : List Tag) (k : Str) : Val := match ts.find? (fun t : Tag => decide (t.key = k)) with
 | some t => ⟨true, t.val⟩
 | none => ⟨false, ⟨#[]⟩⟩
theorem y77 {ts : List Tag} {k : Str} (h : (c07 ts k).has = false) : (c07 ts k).val = ⟨#[]⟩ := by
 unfold c07 at h ⊢
 split at h
 ·cases h
 ·rfl
theorem mu7 {f : Feat} {k : Str} (hl : f.tags.length ≤ 1048576) : lW7 f k = some (c07 f.tags k) := by
 have h1 : rj7 f k = some (aM7 (fun t : Tag => decide (t.key = k)) f.tags 0) := by
  unfold rj7 ut7
  have h := mX7 (gl := fN7 k) (p := fun t : Tag => decide (t.key = k)) (ok := fun _ => True) (fun _ => rfl) (fun x l j _ => by simp only [fN7, us7, Option.bind_some, bT7]) f.tags 0 (fun _ _ => trivial)
  rw [if_pos (aa7 hl)]
  exact (congrArg (fun o => Option.bind o fun x3 => some x3) h)
 unfold lW7 c07
 rw [h1, Option.bind_some]
 rcases kY7 (p := fun t : Tag => decide (t.key = k)) f.tags 0 with ⟨h1, h2⟩ | ⟨j, x, h1, h2, h3, h4⟩
 ·rw [h1, h2]; rfl
 ·rw [h1, h2, if_neg (by simp), ag7, Nat.zero_add, h3, Option.bind_some]
theorem tk7 {ts : List Tag} {k : Str} (hl : ts.length ≤ 1048576) : lQ7 ts k = some ((c07 ts k).val, (c07 ts k).has) := by
 have key : ∀ (l : List Tag) (j : Nat), ((fy7 k l j).bind fun q => match q with | .inl r => some r | .inr q8 => some ((⟨#[]⟩ : Str), false)) = some ((c07 l k).val, (c07 l k).has) := by
  intro l
  induction l with
  | nil => intro j; rfl
  | cons x l ih =>
   intro j
   simp only [fy7, bT7]
   by_cases e : x.key = k
   ·rw [if_pos (decide_eq_true e)]
    unfold c07
    rw [List.find?_cons_of_pos (by simpa using e)]
    rfl
   ·rw [if_neg (by simp [e])]
    have e2 : c07 (x :: l) k = c07 l k := by
     unfold c07
     rw [List.find?_cons_of_neg (by simpa using e)]
    rw [e2]
    exact ih (j + 1)
 unfold lQ7
 rw [if_pos (aa7 hl)]
 exact key ts 0
def by7 {α : Type} [DecidableEq α] (o a b : α) : α × Bool := if a = o then (b, true) else if b = o then (a, true) else if a = b then (a, true) else (a, false)
theorem Rv7 (x y : Val) : ((x.has == y.has) && ((x.val == y.val) && true)) = decide (x = y) := by
 obtain ⟨a, b⟩ := x; obtain ⟨c, d⟩ := y
 simp only [Ho7]
 by_cases h1 : a = c <;> by_cases h2 : b = d <;> simp [h1, h2]
theorem Bn7 {o a b : Val} : rn7 o a b = some (by7 o a b) := by
 unfold rn7 n37 by7
 simp only [Option.bind_some, Rv7]
 by_cases h1 : a = o <;> by_cases h2 : b = o <;> by_cases h3 : a = b <;> simp [h1, h2, h3]
def y87 (o a b : Val) : Val × Bool := if (by7 o a b).2 = true then by7 o a b else (if a.has = true then a else b, false)
theorem FA7 {o a b : List Tag} {k : Str} (ho : o.length ≤ 1048576) (ha : a.length ≤ 1048576) (hb : b.length ≤ 1048576) : qZ7 o a b k = some ((y87 (c07 o k) (c07 a k) (c07 b k)).1.val, (y87 (c07 o k) (c07 a k) (c07 b k)).1.has, (y87 (c07 o k) (c07 a k) (c07 b k)).2) := by
 unfold qZ7
 rw [tk7 ho, Option.bind_some, tk7 ha, Option.bind_some, tk7 hb, Option.bind_some]
 have na := y77 (ts := a) (k := k)
 have nb := y77 (ts := b) (k := k)
 generalize c07 o k = vo at *
 generalize c07 a k = va at *
 generalize c07 b k = vb at *
 obtain ⟨oh, ov⟩ := vo; obtain ⟨ah, av⟩ := va; obtain ⟨bh, bv⟩ := vb
 simp only [bT7] at *
 unfold y87 by7
 simp only [Val.mk.injEq]
 by_cases h1 : av = ov
 ·subst h1
  by_cases h2 : bv = av
  ·subst h2
   cases oh <;> cases ah <;> cases bh <;> simp_all
  ·cases oh <;> cases ah <;> cases bh <;> simp_all [eq_comm]
 ·by_cases h2 : bv = ov
  ·subst h2
   cases oh <;> cases ah <;> cases bh <;> simp_all [eq_comm]
  ·by_cases h3 : av = bv
   ·subst h3
    cases oh <;> cases ah <;> cases bh <;> simp_all [eq_comm]
   ·cases oh <;> cases ah <;> cases bh <;> simp_all [eq_comm]
def mv7 (s : List Tag) (k : Str) : List Tag := s.filter fun y => !decide (y.key = k)
def hY7 (f : Tag) : List Tag → List Tag
 | [] => [f]
 | x :: l => if slt x.key f.key = true then x :: hY7 f l else f :: mv7 (x :: l) f.key
theorem ot7 {x : Tag} {l : List Tag} {k : Str} : mv7 (x :: l) k = if x.key = k then mv7 l k else x :: mv7 l k := by
 unfold mv7
 rw [List.filter_cons]
 by_cases h : x.key = k <;> simp [h]
theorem i17 {f : Tag} : ∀ (l : List Tag) (k : Nat) (v : List Tag), v.length + l.length ≤ 1048576 → cv7 f.key f.val l k true v = some (true, v ++ mv7 l f.key)
 | [], k, v, _ => by simp [cv7, mv7]
 | x :: l, k, v, h => by
  simp only [List.length_cons] at h
  simp only [cv7, bT7, Bool.not_true, Bool.false_eq_true, if_false, Option.bind_some]
  rw [ot7]
  by_cases e : x.key = f.key
  ·rw [if_neg (by simp [e]), i17 l (k + 1) v (by omega), if_pos e]
  ·rw [if_pos (by simp [e]), if_pos (aa7 (by simp; omega)), i17 l (k + 1) _ (by simp; omega), if_neg e]
   simp
theorem se7 {f : Tag} : ∀ (l : List Tag) (k : Nat) (v : List Tag), v.length + l.length + 1 ≤ 1048576 → ∃ d o, cv7 f.key f.val l k false v = some (d, o) ∧ (if d = true then o else o ++ [f]) = v ++ hY7 f l
 | [], k, v, _ => ⟨false, v, rfl, by simp [hY7]⟩
 | x :: l, k, v, h => by
  simp only [List.length_cons] at h
  simp only [cv7, bT7, Bool.not_false, if_true, hY7]
  by_cases e : slt x.key f.key = true
  ·have hn := uO7 e
   obtain ⟨d, o, h1, h2⟩ := se7 l (k + 1) (v ++ [x]) (by simp; omega)
   refine ⟨d, o, ?_, by rw [h2, if_pos e]; simp⟩
   rw [if_neg (by simp [e]), Option.bind_some]
   simp only
   rw [if_pos (by simp [hn]), if_pos (aa7 (by simp; omega)), h1]
  ·rw [if_pos (by simpa using e), if_pos (aa7 (by simp; omega)), Option.bind_some]
   simp only
   rw [if_neg e, ot7]
   by_cases e2 : x.key = f.key
   ·rw [if_neg (by simp [e2]), i17 l (k + 1) _ (by simp; omega), if_pos e2]
    exact ⟨true, _, rfl, by simp⟩
   ·rw [if_pos (by simp [e2]), if_pos (aa7 (by simp; omega)), i17 l (k + 1) _ (by simp; omega), if_neg e2]
    exact ⟨true, _, rfl, by simp⟩
theorem mw7 {f : Tag} : ∀ (l : List Tag), (hY7 f l).length ≤ l.length + 1
 | [] => by simp [hY7]
 | x :: l => by
  have := mw7 (f := f) l
  have h2 : (mv7 (x :: l) f.key).length ≤ (x :: l).length := List.length_filter_le _ _
  unfold hY7
  split
  ·simp only [List.length_cons]; omega
  ·simp only [List.length_cons] at h2 ⊢; omega
theorem FB7 {s : List Tag} {f : Tag} (h : s.length + 1 ≤ 1048576) : iw7 s f.key f.val = some (hY7 f s) := by
 obtain ⟨d, o, h1, h2⟩ := se7 (f := f) s 0 [] (by simp; omega)
 have h3 := mw7 (f := f) s
 simp only [List.nil_append] at h2
 unfold iw7
 rw [if_pos (aa7 (by omega)), h1, Option.bind_some]
 cases d
 ·simp only [Bool.not_false, if_true]
  simp only [Bool.false_eq_true, if_false] at h2
  rw [if_pos (aa7 (by rw [h2]; omega)), h2]
 ·simp only [if_true] at h2
  simp [h2]
theorem mx7 {f : Tag} : ∀ {l : List Tag} {k : Str}, k ∈ (hY7 f l).map (·.key) ↔ k = f.key ∨ k ∈ l.map (·.key)
 | [], k => by simp [hY7]
 | x :: l, k => by
  unfold hY7
  split
  ·rw [List.map_cons, List.mem_cons, mx7, List.map_cons, List.mem_cons]
   constructor
   ·rintro (h | h | h)
    ·exact .inr (.inl h)
    ·exact .inl h
    ·exact .inr (.inr h)
   ·rintro (h | h | h)
    ·exact .inr (.inl h)
    ·exact .inl h
    ·exact .inr (.inr h)
  ·rw [List.map_cons, List.mem_cons]
   have e : k ∈ (mv7 (x :: l) f.key).map (·.key) ↔ k ≠ f.key ∧ k ∈ (x :: l).map (·.key) := by
    simp only [mv7, List.mem_map, List.mem_filter, Bool.not_eq_true', decide_eq_false_iff_not]
    constructor
    ·rintro ⟨y, ⟨h1, h2⟩, rfl⟩
     exact ⟨h2, y, h1, rfl⟩
    ·rintro ⟨h2, y, h1, rfl⟩
     exact ⟨y, ⟨h1, h2⟩, rfl⟩
   rw [e]
   by_cases h : k = f.key
   ·simp [h]
   ·simp [h]
theorem Bo7 {s : List Tag} {k : Str} : (mv7 s k).Sublist s := List.filter_sublist
theorem uW7 {f : Tag} : ∀ {l : List Tag}, SPw (l.map (·.key)) → SPw ((hY7 f l).map (·.key))
 | [], _ => by simp [hY7, SPw]
 | x :: l, h => by
  have h0 := h
  unfold SPw at h
  rw [List.map_cons, List.pairwise_cons] at h
  obtain ⟨h1, h2⟩ := h
  unfold hY7
  split
  ·rename_i e
   unfold SPw
   rw [List.map_cons, List.pairwise_cons]
   refine ⟨fun k hk => ?_, uW7 h2⟩
   rcases mx7.1 hk with rfl | hk
   ·exact e
   ·exact h1 k hk
  ·rename_i e
   unfold SPw
   rw [List.map_cons, List.pairwise_cons]
   refine ⟨fun k hk => ?_, List.Pairwise.sublist ((Bo7 (s := x :: l)).map _) h0⟩
   obtain ⟨y, hy, rfl⟩ := List.mem_map.1 hk
   have hy2 := List.mem_filter.1 hy
   have hne : y.key ≠ f.key := by simpa using hy2.2
   have hfx : leS f.key x.key = true := by unfold leS; simpa using e
   rcases List.mem_cons.1 hy2.1 with rfl | hy3
   ·exact y17 hfx (fun e => hne e.symm)
   ·exact Cz7 hfx (h1 _ (List.mem_map_of_mem hy3))
def hd7 (o a b : List Tag) : List Str := Go.Lib.compact (((o ++ a ++ b).map (·.key)).mergeSort leS)
theorem Bp7 {o a b : List Tag} : SPw (hd7 o a b) := y27 (List.pairwise_mergeSort r77 r87 _)
theorem sf7 {o a b : List Tag} {k : Str} : k ∈ hd7 o a b ↔ k ∈ o.map (·.key) ∨ k ∈ a.map (·.key) ∨ k ∈ b.map (·.key) := by
 unfold hd7
 rw [uR7, (List.mergeSort_perm _ leS).mem_iff, List.map_append, List.map_append, List.mem_append, List.mem_append, or_assoc]
theorem Bq7 {o a b : List Tag} (h : o.length + a.length + b.length ≤ 1000) : qY7 o a b = some (hd7 o a b) := by
 have k1 : ∀ (l : List Tag) (k : Nat) (v : List Tag), v.length + l.length ≤ 1000 → SPw (v.map (·.key)) → ∃ r, fz7 l k v = some r ∧ SPw (r.map (·.key)) ∧ r.length ≤ v.length + l.length ∧ ∀ x, x ∈ r.map (·.key) ↔ x ∈ v.map (·.key) ∨ x ∈ l.map (·.key) := by
  intro l
  induction l with
  | nil => intro k v _ hv; exact ⟨v, rfl, hv, by simp, by simp⟩
  | cons t l ih =>
   intro k v h hv
   simp only [List.length_cons] at h
   have hp := mw7 (f := ⟨t.key, ⟨#[97]⟩⟩) v
   obtain ⟨r, h1, h2, h3, h4⟩ := ih (k + 1) (hY7 ⟨t.key, ⟨#[97]⟩⟩ v) (by omega) (uW7 hv)
   refine ⟨r, ?_, h2, by simp only [List.length_cons]; omega, fun x => ?_⟩
   ·simp only [fz7]
    rw [FB7 (s := v) (f := ⟨t.key, ⟨#[97]⟩⟩) (by omega), Option.bind_some, h1]
   ·rw [h4, mx7, List.map_cons, List.mem_cons]
    constructor
    ·rintro ((h | h) | h)
     ·exact .inr (.inl h)
     ·exact .inl h
     ·exact .inr (.inr h)
    ·rintro (h | h | h)
     ·exact .inl (.inr h)
     ·exact .inl (.inl h)
     ·exact .inr h
 have k2 : ∀ (l : List Tag) (k : Nat) (v : List Str), v.length + l.length ≤ 1000 → ej7 l k v = some (v ++ l.map (·.key)) := by
  intro l
  induction l with
  | nil => intro k v _; simp [ej7]
  | cons x l ih =>
   intro k v h
   simp only [List.length_cons] at h
   simp only [ej7]
   rw [if_pos (aa7 (by simp; omega)), ih _ _ (by simp; omega)]
   simp
 obtain ⟨r, h1, h2, h3, h4⟩ := k1 (o ++ a ++ b) 0 [] (by simp; omega) (by simp [SPw])
 unfold qY7
 simp only [List.nil_append]
 simp only [List.length_append, List.length_nil] at h3
 rw [if_pos (aa7 (by omega)), if_pos (aa7 (by simp; omega)), if_pos (aa7 (by simp; omega)), if_pos (aa7 (by simp; omega)), h1, Option.bind_some, if_pos (aa7 (by omega)), k2 r 0 [] (by simp; omega), Option.bind_some]
 congr 1
 refine y07 (by simpa using h2) Bp7 fun x => ?_
 rw [sf7, List.nil_append, h4]
 simp [or_assoc]
def tagW : Str := ⟨#[116, 97, 103, 32]⟩
def mT (o a b : Feat) (k : Str) : Val × Bool := y87 (c07 o.tags k) (c07 a.tags k) (c07 b.tags k)
def wOf (o a b : Feat) (k : Str) : List Str := if (mT o a b k).2 = true then [] else [tagW ++ k]
def tOf (o a b : Feat) (k : Str) : List Tag := if (mT o a b k).1.has = true then [⟨k, (mT o a b k).1.val⟩] else []
structure he7 (f : Feat) : Prop where
 id : f.id.size ≤ 7
 pts : f.shape.pts.length ≤ 6
 tags : f.tags.length ≤ 4
 key : ∀ t, t ∈ f.tags → t.key.size ≤ 7 ∧ t.val.size ≤ 7
 shape : dt7 f.shape = true
theorem hZ7 {f : Feat} (h : bM7 f = true) : he7 f := by
 unfold bM7 qE7 at h
 simp only [Bool.and_eq_true, decide_eq_true_eq] at h
 obtain ⟨h1, h2, h5, h6⟩ := h
 have h3 := h2
 unfold dt7 at h3
 simp only [Bool.and_eq_true, decide_eq_true_eq] at h3
 refine ⟨ck7 h1, h3.2.1, h6, fun t ht => ?_, h2⟩
 obtain ⟨j, hj⟩ := Mp7 h5 ht
 simp only [Bool.and_eq_true] at hj
 exact ⟨ck7 hj.1, ck7 hj.2.1⟩
theorem sg7 {ts : List Tag} {k : Str} (h : ∀ t, t ∈ ts → t.key.size ≤ 7 ∧ t.val.size ≤ 7) : (c07 ts k).val.size ≤ 7 := by
 unfold c07
 split
 ·rename_i t e
  exact (h t (List.mem_of_find?_eq_some e)).2
 ·show (0 : Nat) ≤ 7
  omega
theorem my7 {α : Type} [DecidableEq α] {o a b : α} : (by7 o a b).1 = a ∨ (by7 o a b).1 = b := by
 unfold by7
 split
 ·exact .inr rfl
 ·split
  ·exact .inl rfl
  ·split <;> exact .inl rfl
theorem Br7 {o a b : Val} : (y87 o a b).1 = a ∨ (y87 o a b).1 = b := by
 unfold y87
 split
 ·exact my7
 ·split
  ·exact .inl rfl
  ·exact .inr rfl
section
variable {o a b : Feat}
theorem FC7 (k : Str) : (tOf o a b k).length ≤ 1 := by
 unfold tOf
 split <;> simp
theorem y97 (k : Str) : (wOf o a b k).length ≤ 1 := by
 unfold wOf
 split <;> simp
theorem wf {k : Str} {p : Bool} (h : (mT o a b k).2 = p) : wOf o a b k = if p = true then [] else [tagW ++ k] := by
 unfold wOf
 rw [h]
theorem tf {k : Str} {p : Bool} (h : (mT o a b k).1.has = p) : tOf o a b k = if p = true then [⟨k, (mT o a b k).1.val⟩] else [] := by
 unfold tOf
 rw [h]
theorem Bs7 {α β : Type} {f : α → List β} (h : ∀ x, (f x).length ≤ 1) : ∀ l : List α, (l.flatMap f).length ≤ l.length
 | [] => by simp
 | x :: l => by
  have h1 := h x
  have h2 := Bs7 h l
  simp only [List.flatMap_cons, List.length_append, List.length_cons]
  omega
theorem tl7 {k : Str} (h : k.size ≤ 1000) : cat (⟨#[116, 97, 103, 32]⟩ : Str) k = some (tagW ++ k) := by
 unfold cat
 rw [if_pos]
 ·rfl
 ·show 4 + k.size ≤ _
  omega
theorem uX7 (ho : he7 o) (ha : he7 a) (hb : he7 b) : ∀ (l : List Str) (j : Nat) (w : List Str) (ts : List Tag), (∀ k, k ∈ l → k.size ≤ 7) → w.length + l.length ≤ 1000 → ts.length + l.length ≤ 1000 → cR7 o a b l j w ts = some (w ++ l.flatMap (wOf o a b), ts ++ l.flatMap (tOf o a b))
 | [], j, w, ts, hk, hw, ht => by simp [cR7]
 | k :: l, j, w, ts, hk, hw, ht => by
  have h1 := ho.tags; have h2 := ha.tags; have h3 := hb.tags
  have hks := hk k (by simp)
  simp only [List.length_cons] at hw ht
  have ih := fun w ts hw ht => uX7 ho ha hb l (j + 1) w ts (fun k h => hk k (by simp [h])) hw ht
  simp only [cR7]
  rw [FA7 (by omega) (by omega) (by omega), Option.bind_some, show y87 (c07 o.tags k) (c07 a.tags k) (c07 b.tags k) = mT o a b k from rfl, List.flatMap_cons, List.flatMap_cons]
  cases e1 : (mT o a b k).2 <;> cases e2 : (mT o a b k).1.has
  ·rw [if_pos (by simp), tl7 (by omega), Option.bind_some, if_pos (aa7 (by simp; omega)), if_neg (by simp), ih _ _ (by simp; omega) (by omega)]
   rw [wf e1, tf e2]; simp
  ·rw [if_pos (by simp), tl7 (by omega), Option.bind_some, if_pos (aa7 (by simp; omega)), if_pos (by simp), if_pos (aa7 (by simp; omega)), ih _ _ (by simp; omega) (by simp; omega)]
   rw [wf e1, tf e2]; simp
  ·rw [if_neg (by simp), if_neg (by simp), ih _ _ (by omega) (by omega)]
   rw [wf e1, tf e2]; simp
  ·rw [if_neg (by simp), if_pos (by simp), if_pos (aa7 (by simp; omega)), ih _ _ (by omega) (by simp; omega)]
   rw [wf e1, tf e2]; simp
theorem uY7 (ho : he7 o) (ha : he7 a) (hb : he7 b) : ∀ (l : List Str) (j : Nat) (w : List Str) (ts : List Tag), (∀ k, k ∈ l → k.size ≤ 7) → w.length + l.length ≤ 1000 → ts.length + l.length ≤ 1000 → dG7 a b o l j w ts = some (w ++ l.flatMap (wOf o a b), ts ++ l.flatMap (tOf o a b))
 | [], j, w, ts, hk, hw, ht => by simp [dG7]
 | k :: l, j, w, ts, hk, hw, ht => by
  have h1 := ho.tags; have h2 := ha.tags; have h3 := hb.tags
  have hks := hk k (by simp)
  simp only [List.length_cons] at hw ht
  have ih := fun w ts hw ht => uY7 ho ha hb l (j + 1) w ts (fun k h => hk k (by simp [h])) hw ht
  simp only [dG7]
  rw [mu7 (by omega), Option.bind_some, mu7 (by omega), Option.bind_some, mu7 (by omega), Option.bind_some, Bn7, Option.bind_some, List.flatMap_cons, List.flatMap_cons]
  have e0 : mT o a b k = y87 (c07 o.tags k) (c07 a.tags k) (c07 b.tags k) := rfl
  have key : ((if (!(by7 (c07 o.tags k) (c07 a.tags k) (c07 b.tags k)).2) = true then ((cat (⟨#[116, 97, 103, 32]⟩ : Str) k).bind fun x292 => if aH7 (w ++ ([x292] : (List Str))).length = true then if (!(c07 a.tags k).has) = true then (some ((w ++ ([x292] : (List Str))), (c07 b.tags k).has, (c07 b.tags k).val)) else (some ((w ++ ([x292] : (List Str))), (c07 a.tags k).has, (c07 a.tags k).val)) else none) else (some (w, (by7 (c07 o.tags k) (c07 a.tags k) (c07 b.tags k)).1.has, (by7 (c07 o.tags k) (c07 a.tags k) (c07 b.tags k)).1.val)) : Option ((List Str) × Bool × Str))) = some (w ++ wOf o a b k, (mT o a b k).1.has, (mT o a b k).1.val) := by
   unfold wOf
   rw [e0]
   unfold y87
   cases e1 : (by7 (c07 o.tags k) (c07 a.tags k) (c07 b.tags k)).2
   ·rw [if_pos (by simp), tl7 (by omega), Option.bind_some, if_pos (aa7 (by simp; omega))]
    cases e2 : (c07 a.tags k).has <;> simp [e2]
   ·simp [e1]
  refine (congrArg (fun z => Option.bind z _) key).trans ?_
  simp only [Option.bind_some]
  have hwl := y97 (o := o) (a := a) (b := b) k
  cases e2 : (mT o a b k).1.has
  ·rw [if_neg (by simp), ih _ _ (by simp; omega) (by omega)]
   rw [tf e2]; simp
  ·rw [if_pos (by simp), if_pos (aa7 (by simp; omega)), ih _ _ (by simp; omega) (by simp; omega)]
   rw [tf e2]; simp
end
def bw7 (o a b : aL7) : aL7 × Bool := if (by7 o a b).2 = true then by7 o a b else if a.kind = b.kind ∧ a.kind = o.kind then (match ks7 o.pts a.pts b.pts with
 | some p => if dt7 ⟨a.kind, p⟩ = true then (⟨a.kind, p⟩, true) else (a, false)
 | none => (a, false)) else (a, false)
theorem Bt7 {o a b : aL7} (ha : a.pts.length ≤ 1048576) (hb : b.pts.length ≤ 1048576) : rm7 o a b = some (by7 o a b) := by
 unfold rm7 by7
 rw [f07 ha, Option.bind_some]
 by_cases h1 : a = o
 ·rw [if_pos (decide_eq_true h1), if_pos h1]
 ·rw [if_neg (by simp [h1]), if_neg h1, f07 hb, Option.bind_some]
  by_cases h2 : b = o
  ·rw [if_pos (decide_eq_true h2), if_pos h2]
  ·rw [if_neg (by simp [h2]), if_neg h2, f07 ha, Option.bind_some]
   by_cases h3 : a = b
   ·rw [if_pos (decide_eq_true h3), if_pos h3]
   ·rw [if_neg (by simp [h3]), if_neg h3]
theorem za7 {o a b : List Pt} {pa pb : List cM7} (ho : o.length ≤ 12) (ha : a.length ≤ 12) (hb : b.length ≤ 12) : ∀ (n at_ i j k : Nat) (out p : List Pt), mg o a b pa pb n at_ i j k out = some p → p.length ≤ out.length + 13 * n + 12
 | 0, at_, i, j, k, out, p, h => by
  simp only [mg] at h
  cases hp : pick (mI7 o i at_) (a.drop j) (b.drop k) with
  | none => rw [hp] at h; cases h
  | some q =>
   have hq := i07 (by rw [List.length_drop]; omega) (by rw [List.length_drop]; omega) hp
   rw [hp] at h
   cases h
   simp
   omega
 | n + 1, at_, i, j, k, out, p, h => by
  simp only [mg] at h
  split at h
  ·rename_i x y hx hy
   cases hp : pick (mI7 o i at_) (mI7 a j x) (mI7 b k y) with
   | none => rw [hp] at h; cases h
   | some q =>
    have hq := i07 (dm7 (i := j) (j := x) ha) (dm7 (i := k) (j := y) hb) hp
    rw [hp] at h
    have := za7 ho ha hb n _ _ _ _ _ _ h
    have h2 : (o[at_]?).toList.length ≤ 1 := by cases o[at_]? <;> simp
    simp only [List.length_append] at this
    omega
  ·have := za7 ho ha hb n _ _ _ _ _ _ h
   omega
theorem jL7 {o a b p : List Pt} (ho : o.length ≤ 12) (ha : a.length ≤ 12) (hb : b.length ≤ 12) (h : ks7 o a b = some p) : p.length ≤ 200 := by
 have := za7 ho ha hb _ _ _ _ _ _ _ h
 simp at this
 omega
theorem jM7 {o a b : aL7} (h1 : ¬a = o) (h2 : ¬b = o) (h3 : ¬a = b) : bw7 o a b = if a.kind = b.kind ∧ a.kind = o.kind then (match ks7 o.pts a.pts b.pts with
 | some p => if dt7 ⟨a.kind, p⟩ = true then (⟨a.kind, p⟩, true) else (a, false)
 | none => (a, false)) else (a, false) := by
 unfold bw7 by7
 rw [if_neg h1, if_neg h2, if_neg h3, if_neg (fun h => by cases h)]
theorem d17 {o a b : aL7} (h : a = o ∨ b = o ∨ a = b) : bw7 o a b = by7 o a b := by
 unfold bw7
 rw [if_pos]
 unfold by7
 by_cases h1 : a = o
 ·simp [h1]
 ·by_cases h2 : b = o
  ·simp [h1, h2]
  ·by_cases h3 : a = b
   ·simp [h1, h2, h3]
   ·simp_all
theorem zb7 {o a b : aL7} (ho : o.pts.length ≤ 12) (ha : a.pts.length ≤ 12) (hb : b.pts.length ≤ 12) : qX7 o a b = some (bw7 o a b) := by
 unfold qX7
 rw [fZ7 (by omega), Option.bind_some]
 by_cases h1 : a = o
 ·rw [if_pos (decide_eq_true h1), d17 (.inl h1)]
  unfold by7
  rw [if_pos h1]
 ·rw [if_neg (by simp [h1]), fZ7 (by omega), Option.bind_some]
  by_cases h2 : b = o
  ·rw [if_pos (decide_eq_true h2), d17 (.inr (.inl h2))]
   unfold by7
   rw [if_neg h1, if_pos h2]
   rfl
  ·rw [if_neg (by simp [h2]), fZ7 (by omega)]
   simp only [Option.bind_some]
   by_cases h3 : a = b
   ·rw [if_pos (decide_eq_true h3), d17 (.inr (.inr h3))]
    unfold by7
    rw [if_neg h1, if_neg h2, if_pos h3]
   ·rw [if_neg (by simp [h3]), jM7 h1 h2 h3]
    by_cases k1 : a.kind = b.kind
    ·rw [if_neg (by simp [k1])]
     by_cases k2 : a.kind = o.kind
     ·rw [if_neg (by simp [k2]), if_pos ⟨k1, k2⟩, y67 ho ha hb, Option.bind_some]
      unfold jK7
      cases hm : ks7 o.pts a.pts b.pts with
      | none => simp
      | some p =>
       have := jL7 ho ha hb hm
       simp only
       rw [if_neg (by simp), iN7 (by simp only; omega), Option.bind_some]
       cases dt7 ⟨a.kind, p⟩ <;> simp
     ·rw [if_pos (by simp [k2]), if_neg (fun h => k2 h.2)]
    ·rw [if_pos (by simp [k1]), if_neg (fun h => k1 h.1)]
def shW : Str := ⟨#[115, 104, 97, 112, 101]⟩
def Qp7 : Str := ⟨#[109, 117, 99, 104]⟩
def fjF (o a b : Feat) : Feat := ⟨a.id, (bw7 o.shape a.shape b.shape).1, (hd7 o.tags a.tags b.tags).flatMap (tOf o a b)⟩
def fjW (o a b : Feat) : List Str := (if (bw7 o.shape a.shape b.shape).2 = true then [] else [shW]) ++ (hd7 o.tags a.tags b.tags).flatMap (wOf o a b)
def mFJ (o a b : Feat) : Feat × List Str := if bM7 (fjF o a b) = true then (fjF o a b, fjW o a b) else (a, [Qp7])
theorem Bu7 {xs : List Str} : (Go.Lib.compact xs).length ≤ xs.length := by
 unfold Go.Lib.compact Go.Lib.compactUpTo
 rw [List.length_map]
 exact Nat.le_trans (List.length_filter_le _ _) (by simp)
theorem i27 {o a b : List Tag} : (hd7 o a b).length ≤ o.length + a.length + b.length := by
 have := Bu7 (xs := ((o ++ a ++ b).map (·.key)).mergeSort leS)
 unfold hd7
 simp only [List.length_mergeSort, List.length_map, List.length_append] at this
 omega
theorem h07 {o a b : aL7} (ho : o.pts.length ≤ 12) (ha : a.pts.length ≤ 12) (hb : b.pts.length ≤ 12) : (bw7 o a b).1.pts.length ≤ 200 := by
 by_cases h : a = o ∨ b = o ∨ a = b
 ·rw [d17 h]
  rcases my7 (o := o) (a := a) (b := b) with h | h <;> rw [h] <;> omega
 ·rw [jM7 (fun e => h (.inl e)) (fun e => h (.inr (.inl e))) (fun e => h (.inr (.inr e)))]
  split
  ·split
   ·rename_i p hp
    split
    ·exact jL7 ho ha hb hp
    ·simp only; omega
   ·simp only; omega
  ·simp only; omega
theorem i37 {o a b : Feat} (ho : he7 o) (ha : he7 a) (hb : he7 b) : ∀ k, k ∈ hd7 o.tags a.tags b.tags → k.size ≤ 7 := fun k hk => by
 rcases sf7.1 hk with h | h | h
 ·obtain ⟨t, ht, rfl⟩ := List.mem_map.1 h; exact (ho.key t ht).1
 ·obtain ⟨t, ht, rfl⟩ := List.mem_map.1 h; exact (ha.key t ht).1
 ·obtain ⟨t, ht, rfl⟩ := List.mem_map.1 h; exact (hb.key t ht).1
theorem mz7 {α : Type} {w : α → Nat} {c : Nat} : ∀ {l : List α}, (∀ x, x ∈ l → w x ≤ c) → h37 w l ≤ l.length * c
 | [], h => by simp [h37]
 | x :: l, h => by
  have h1 := h x (by simp)
  have h2 := mz7 (l := l) fun y hy => h y (by simp [hy])
  simp only [h37, List.length_cons, Nat.add_mul]
  omega
theorem Ra7 {o a b : Feat} (ho : he7 o) (ha : he7 a) (hb : he7 b) : aZ7 (fjF o a b) ≤ 1000 := by
 have h1 := h07 (o := o.shape) (a := a.shape) (b := b.shape) (by have := ho.pts; omega) (by have := ha.pts; omega) (by have := hb.pts; omega)
 have h2 := i27 (o := o.tags) (a := a.tags) (b := b.tags)
 have h3 := Bs7 (f := tOf o a b) (fun k => FC7 k) (hd7 o.tags a.tags b.tags)
 have t1 := ho.tags; have t2 := ha.tags; have t3 := hb.tags
 have h4 : h37 sO7 ((hd7 o.tags a.tags b.tags).flatMap (tOf o a b)) ≤ ((hd7 o.tags a.tags b.tags).flatMap (tOf o a b)).length * 14 := mz7 fun t ht => by
  obtain ⟨k, hk, hkt⟩ := List.mem_flatMap.1 ht
  have hs := i37 ho ha hb k hk
  unfold tOf at hkt
  split at hkt
  ·simp only [List.mem_singleton] at hkt
   subst hkt
   have v1 := sg7 (k := k) ha.key
   have v2 := sg7 (k := k) hb.key
   unfold sO7
   simp only
   rcases Br7 (o := c07 o.tags k) (a := c07 a.tags k) (b := c07 b.tags k) with e | e
   ·have : (mT o a b k).1.val.size ≤ 7 := by unfold mT; rw [e]; exact v1
    omega
   ·have : (mT o a b k).1.val.size ≤ 7 := by unfold mT; rw [e]; exact v2
    omega
  ·simp at hkt
 have h5 := qB7 (bw7 o.shape a.shape b.shape).1.pts
 have h6 := ha.id
 unfold fjF aZ7 hk7 wL
 simp only
 omega
theorem Bv7 {o a b : Feat} (ho : bM7 o = true) (ha : bM7 a = true) (hb : bM7 b = true) : q07 o a b = some (mFJ o a b) := by
 have bo := hZ7 ho; have ba := hZ7 ha; have bb := hZ7 hb
 have p1 := bo.pts; have p2 := ba.pts; have p3 := bb.pts
 have t1 := bo.tags; have t2 := ba.tags; have t3 := bb.tags
 have hp := h07 (o := o.shape) (a := a.shape) (b := b.shape) (by omega) (by omega) (by omega)
 have hk := i27 (o := o.tags) (a := a.tags) (b := b.tags)
 have hw := Ra7 bo ba bb
 have hwa := mt7 ha
 unfold q07
 rw [zb7 (by omega) (by omega) (by omega)]
 simp only [Option.bind_some]
 have k1 : ((if (!(bw7 o.shape a.shape b.shape).2) = true then (if aH7 ([] ++ ([(⟨#[115, 104, 97, 112, 101]⟩ : Str)] : (List Str))).length = true then some ([] ++ ([(⟨#[115, 104, 97, 112, 101]⟩ : Str)] : (List Str))) else none) else (some []) : Option (List Str))) = some (if (bw7 o.shape a.shape b.shape).2 = true then [] else [shW]) := by
  cases (bw7 o.shape a.shape b.shape).2
  ·rw [if_pos (by rfl), if_pos (aa7 (by simp))]; rfl
  ·rfl
 rw [k1, Option.bind_some]
 have k2 : lO7 (⟨(bw7 o.shape a.shape b.shape).1.kind, (bw7 o.shape a.shape b.shape).1.pts⟩ : aL7) = some (bw7 o.shape a.shape b.shape).1 := by
  unfold lO7
  rw [if_pos (aa7 (by simp; omega))]
  rfl
 rw [k2, Option.bind_some, Bq7 (by omega), Option.bind_some, if_pos (aa7 (by omega)), uX7 bo ba bb _ _ _ _ (i37 bo ba bb) (by split <;> simp <;> omega) (by simp; omega), Option.bind_some]
 simp only [List.nil_append]
 have k3 : lK7 (⟨a.id, (bw7 o.shape a.shape b.shape).1, (hd7 o.tags a.tags b.tags).flatMap (tOf o a b)⟩ : Feat) = some (bM7 (fjF o a b)) := uC7 (f := fjF o a b) (by omega)
 rw [k3, Option.bind_some]
 unfold mFJ
 cases bM7 (fjF o a b)
 ·rw [if_pos (by rfl), kX7 (by omega)]; rfl
 ·rfl
theorem Bw7 {xs : List (List Tag)} (h : xs.length ≤ 1000) (hs : (xs.flatten).length ≤ 1000) : rk7 xs = some xs.flatten := by
 have k1 : ∀ (l : List (List Tag)) (k n : Nat), n + l.flatten.length ≤ 1000 → fO7 l k (n : Int) = some ((n + l.flatten.length : Nat) : Int) := by
  intro l
  induction l with
  | nil => intro k n _; rfl
  | cons x l ih =>
   intro k n h
   simp only [List.flatten_cons, List.length_append] at h ⊢
   simp only [fO7]
   rw [show IntKind.i64.wrap ((n : Int) + (x.length : Int)) = ((n + x.length : Nat) : Int) by rw [wr1 (by omega) (by omega)]; omega, if_neg (by simp; omega), ih _ _ (by omega)]
   congr 2
   omega
 have k2 : ∀ (l : List (List Tag)) (k : Nat) (v : List Tag), v.length + l.flatten.length ≤ 1000 → ev7 l k v = some (v ++ l.flatten) := by
  intro l
  induction l with
  | nil => intro k v _; simp [ev7]
  | cons x l ih =>
   intro k v h
   simp only [List.flatten_cons, List.length_append] at h ⊢
   simp only [ev7]
   rw [if_pos (aa7 (by rw [List.length_append]; omega)), ih _ _ (by rw [List.length_append]; omega)]
   simp
 have h1 := k1 xs 0 0 (by omega)
 unfold rk7 Cp7 xy7
 rw [if_pos (aa7 (by omega))]
 refine (congrArg (fun z => Option.bind z _) h1).trans ?_
 simp only [Option.bind_some, Nat.zero_add]
 rw [if_pos (by rw [decide_eq_true (by omega), decide_eq_true (by omega)]; rfl), Option.bind_some, if_pos (aa7 (by omega)), k2 xs 0 [] (by rw [List.length_nil]; omega)]
 rfl
def MQ7 (o a b : Feat) : Feat × List Str := if (bM7 o && (bM7 a && (bM7 b && (decide (o.id = a.id) && decide (o.id = b.id))))) = true then mFJ o a b else (nF, [])
theorem vY7 {o a b : Feat} (wo : aZ7 o ≤ 1048576) (wa : aZ7 a ≤ 1048576) (wb : aZ7 b ≤ 1048576) : ro7 o a b = some (MQ7 o a b) := by
 unfold ro7 MQ7
 rw [iO7 wo, iO7 wa, iO7 wb, bT7, bT7]
 cases ho : bM7 o
 ·rfl
 cases ha : bM7 a
 ·rfl
 cases hb : bM7 b
 ·rfl
 by_cases i1 : o.id = a.id
 case neg => simp [i1, nF]
 by_cases i2 : o.id = b.id
 case neg => rw [i1] at i2; simp [i1, i2, nF]
 have bo := hZ7 ho; have ba := hZ7 ha; have bb := hZ7 hb
 have p1 := bo.pts; have p2 := ba.pts; have p3 := bb.pts
 have t1 := bo.tags; have t2 := ba.tags; have t3 := bb.tags
 have hp := h07 (o := o.shape) (a := a.shape) (b := b.shape) (by omega) (by omega) (by omega)
 have hk := i27 (o := o.tags) (a := a.tags) (b := b.tags)
 have hw := Ra7 bo ba bb
 have hwa := mt7 ha
 simp only [Bool.not_true, Bool.false_eq_true, if_false, Option.bind_some, decide_eq_true i1, decide_eq_true i2, if_true, Bool.and_self, Bool.true_and]
 rw [Bt7 (by omega) (by omega)]
 simp only [Option.bind_some]
 have k1 : ((if (!(by7 o.shape a.shape b.shape).2) = true then (((if (o.shape.kind == a.shape.kind) = true then (if (o.shape.kind == b.shape.kind) = true then ((n27 o.shape.pts a.shape.pts b.shape.pts).bind fun x56 => if x56.2 = true then ((lT7 (⟨a.shape.kind, x56.1⟩ : aL7)).bind fun x61 => if x61 = true then (some (true, a.shape.kind, x56.1)) else (some (false, (by7 o.shape a.shape b.shape).1.kind, (by7 o.shape a.shape b.shape).1.pts))) else (some (false, (by7 o.shape a.shape b.shape).1.kind, (by7 o.shape a.shape b.shape).1.pts))) else (some (false, (by7 o.shape a.shape b.shape).1.kind, (by7 o.shape a.shape b.shape).1.pts))) else (some (false, (by7 o.shape a.shape b.shape).1.kind, (by7 o.shape a.shape b.shape).1.pts)) : Option (Bool × Int × (List Pt)))).bind fun q55 => if (!q55.1) = true then (if aH7 ([] ++ ([(⟨#[115, 104, 97, 112, 101]⟩ : Str)] : (List Str))).length = true then some (([] ++ ([(⟨#[115, 104, 97, 112, 101]⟩ : Str)] : (List Str))), q55.2.1, q55.2.2) else none) else (some ([], q55.2.1, q55.2.2))) else (some ([], (by7 o.shape a.shape b.shape).1.kind, (by7 o.shape a.shape b.shape).1.pts)) : Option ((List Str) × Int × (List Pt)))) =
   some (if (bw7 o.shape a.shape b.shape).2 = true then [] else [shW], (bw7 o.shape a.shape b.shape).1.kind, (bw7 o.shape a.shape b.shape).1.pts) := by
  by_cases h : a.shape = o.shape ∨ b.shape = o.shape ∨ a.shape = b.shape
  ·have h2 : (by7 o.shape a.shape b.shape).2 = true := by
    unfold by7
    by_cases h1 : a.shape = o.shape
    ·simp [h1]
    ·by_cases h2 : b.shape = o.shape
     ·simp [h1, h2]
     ·have h3 : a.shape = b.shape := by simp_all
      rw [if_neg h1, if_neg h2, if_pos h3]
   rw [d17 h, h2]
   rfl
  ·have n1 : ¬ a.shape = o.shape := fun e => h (.inl e)
   have n2 : ¬ b.shape = o.shape := fun e => h (.inr (.inl e))
   have n3 : ¬ a.shape = b.shape := fun e => h (.inr (.inr e))
   have h2 : by7 o.shape a.shape b.shape = (a.shape, false) := by
    unfold by7
    rw [if_neg n1, if_neg n2, if_neg n3]
   have hj := jM7 n1 n2 n3
   rw [h2]
   simp only [Bool.not_false, if_true]
   by_cases q1 : o.shape.kind = a.shape.kind
   ·by_cases q2 : o.shape.kind = b.shape.kind
    ·rw [if_pos (by simpa using q1), if_pos (by simpa using q2), vX7 (by omega) (by omega) (by omega)]
     rw [if_pos ⟨q1.symm.trans q2, q1.symm⟩] at hj
     rw [hj]
     unfold jK7
     cases hm : ks7 o.shape.pts a.shape.pts b.shape.pts with
     | none => rfl
     | some p =>
      have := jL7 (by omega) (by omega) (by omega) hm
      simp only [Option.bind_some, if_true]
      rw [rV7 (by simp only; omega), Option.bind_some]
      by_cases hs : dt7 ⟨a.shape.kind, p⟩ = true
      ·simp only [hs, if_true]; rfl
      ·simp only [hs]; rfl
    ·rw [if_neg (fun h => q2 (q1.trans h.1))] at hj
     rw [hj, if_pos (by simpa using q1), if_neg (by simpa using q2)]
     rfl
   ·rw [if_neg (fun h => q1 h.2.symm)] at hj
    rw [hj, if_neg (by simpa using q1)]
    rfl
 refine (congrArg (fun z => Option.bind z _) k1).trans ?_
 simp only [Option.bind_some]
 have k2 : lV7 (⟨(bw7 o.shape a.shape b.shape).1.kind, (bw7 o.shape a.shape b.shape).1.pts⟩ : aL7) = some (bw7 o.shape a.shape b.shape).1 := by
  unfold lV7
  rw [if_pos (aa7 (by simp; omega))]
  rfl
 have k3 : ∀ (l : List Tag) (k : Nat) (v : List Str), v.length + l.length ≤ 1000 → ke7 l k v = some (v ++ l.map (·.key)) := by
  intro l
  induction l with
  | nil => intro k v _; simp [ke7]
  | cons x l ih =>
   intro k v h
   simp only [List.length_cons] at h
   simp only [ke7]
   rw [if_pos (aa7 (by simp; omega)), ih _ _ (by simp; omega)]
   simp
 have hfl : ([o.tags, a.tags, b.tags] : List (List Tag)).flatten = o.tags ++ a.tags ++ b.tags := by simp
 rw [k2, Option.bind_some, Bw7 (by simp) (by rw [hfl]; simp; omega), Option.bind_some, hfl, if_pos (aa7 (by simp; omega)), k3 _ 0 [] (by simp; omega), Option.bind_some, List.nil_append]
 unfold rg7 up7 qv7 vC7
 rw [if_pos (aa7 (by simp; omega)), Option.bind_some, if_pos (aa7 (by simp [List.length_mergeSort]; omega)), Option.bind_some, show Go.Lib.compact (((o.tags ++ a.tags ++ b.tags).map (·.key)).mergeSort leS) = hd7 o.tags a.tags b.tags from rfl, if_pos (aa7 (by omega)), uY7 bo ba bb _ _ _ _ (i37 bo ba bb) (by split <;> simp <;> omega) (by simp; omega), Option.bind_some]
 simp only [List.nil_append]
 have k4 : hq7 (⟨a.id, (bw7 o.shape a.shape b.shape).1, (hd7 o.tags a.tags b.tags).flatMap (tOf o a b)⟩ : Feat) = some (bM7 (fjF o a b)) := iO7 (f := fjF o a b) (by omega)
 rw [k4, Option.bind_some]
 unfold mFJ
 cases bM7 (fjF o a b)
 ·rw [if_pos (by rfl), f57 (by omega)]; rfl
 ·rfl
def vZ7 : Str := ⟨#[103, 111, 110, 101]⟩
def FD7 : Str := ⟨#[98, 111, 116, 104]⟩
def mJ1 (o a b : Feat × Bool) : (Feat × Bool) × List Str :=
 if (by7 o a b).2 = true then ((by7 o a b).1, [])
 else if a.2 = false then ((b.1, true), [vZ7])
 else if b.2 = false then ((a.1, true), [vZ7])
 else if o.2 = false then ((a.1, true), [FD7])
 else (((mFJ o.1 a.1 b.1).1, true), (mFJ o.1 a.1 b.1).2)
def cs7 (o a b : List Feat) (id : Str) : (Feat × Bool) × List Str := mJ1 (bH7 o id) (bH7 a id) (bH7 b id)
def i47 (o a b : List Feat) : List Str := FT7 (a.foldl (fun v x => h77 x v) o) b
theorem Bx7 {o a b : List Feat} (h : Pw o) : SPw (i47 o a b) := Fx7 (th7 h)
theorem sh7 {o a b : List Feat} {i : Str} : i ∈ i47 o a b ↔ i ∈ o.map (·.id) ∨ i ∈ a.map (·.id) ∨ i ∈ b.map (·.id) := by
 unfold i47 FT7
 rw [pA7, pA7, or_assoc]
theorem By7 {o a b : List Feat} (hp : Pw o) (ha : o.length + a.length + b.length ≤ 1000) : rl7 [o, a, b] = some (i47 o a b) := by
 have k5 : ∀ (l : List Feat) (k : Nat) (v : List Str), v.length + l.length ≤ 1000 → ew7 l k v = some (v ++ l.map (·.id)) := by
  intro l
  induction l with
  | nil => intro k v _; simp [ew7]
  | cons x l ih =>
   intro k v h
   simp only [List.length_cons] at h
   simp only [ew7]
   rw [if_pos (aa7 (by simp; omega)), ih _ _ (by simp; omega)]
   simp
 have hm : ((o.map (·.id) ++ a.map (·.id) ++ b.map (·.id)).mergeSort leS).length ≤ 1000 := by rw [List.length_mergeSort]; simp; omega
 unfold rl7
 simp only [g17, aa7 (n := [o, a, b].length) (by simp), aa7 (n := o.length) (by omega), aa7 (n := a.length) (by omega), aa7 (n := b.length) (by omega), k5 o 0 [] (by simp; omega), k5 a 0 (o.map (·.id)) (by simp; omega), k5 b 0 (o.map (·.id) ++ a.map (·.id)) (by simp; omega), if_true, Option.bind_some, List.nil_append, rg7, qv7, aa7 (n := (o.map (·.id) ++ a.map (·.id) ++ b.map (·.id)).length) (by simp; omega), up7, vC7, aa7 (n := ((o.map (·.id) ++ a.map (·.id) ++ b.map (·.id)).mergeSort leS).length) (by omega)]
 congr 1
 refine y07 (y27 (List.pairwise_mergeSort r77 r87 _)) (Bx7 hp) fun x => ?_
 rw [uR7, (List.mergeSort_perm _ leS).mem_iff, List.mem_append, List.mem_append, sh7, or_assoc]
theorem k07 : ∀ {l v : List Feat}, (l.foldl (fun v x => h77 x v) v).length ≤ v.length + l.length
 | [], v => by simp
 | x :: l, v => by
  have h1 := iZ7 (f := x) v
  have h2 := k07 (l := l) (v := h77 x v)
  simp only [List.foldl_cons, List.length_cons]
  omega
theorem FE7 {o a b : List Feat} (ha : o.length + a.length + b.length ≤ 1000) : q17 o a b = some (i47 o a b) := by
 have k1 : ∀ (l : List Feat) (k : Nat) (v : List Feat), v.length + l.length ≤ 1000 → fA7 l k v = some (l.foldl (fun v x => h77 x v) v) := by
  intro l
  induction l with
  | nil => intro k v _; rfl
  | cons x l ih =>
   intro k v h
   simp only [List.length_cons] at h
   have hp := iZ7 (f := x) v
   simp only [fA7]
   rw [yX7 (by omega), Option.bind_some, ih (k + 1) (h77 x v) (by omega), List.foldl_cons]
 have hl := k07 (l := a) (v := o)
 unfold q17 i47
 rw [if_pos (aa7 (by omega)), k1 a 0 o (by omega), Option.bind_some, Bi7 (by omega)]
 rfl
theorem i57 {o a b : List Feat} : (i47 o a b).length ≤ o.length + a.length + b.length := by
 have h1 := k07 (l := a) (v := o)
 have h2 := k07 (l := b) (v := a.foldl (fun v x => h77 x v) o)
 unfold i47 FT7
 rw [List.length_map]
 omega
theorem bx7 {s : List Feat} {id : Str} (h : ∀ f, f ∈ s → bM7 f = true) (h2 : (bH7 s id).2 = true) : bM7 (bH7 s id).1 = true := by
 unfold bH7 at h2 ⊢
 split
 ·rename_i f e
  exact h f (List.mem_of_find?_eq_some e)
 ·rename_i e
  rw [e] at h2
  cases h2
theorem gN7 {s : List Feat} {id : Str} (h : (bH7 s id).2 = false) : bH7 s id = (nF, false) := by
 unfold bH7 at h ⊢
 split
 ·rename_i f e
  rw [e] at h
  cases h
 ·rfl
theorem tm7 {s : List Feat} (h : a87 s = true) : ∀ f, f ∈ s → bM7 f = true := fun f hf => by
 unfold a87 at h
 rw [Bool.and_eq_true] at h
 obtain ⟨j, hj⟩ := Mp7 h.1 hf
 rw [Bool.and_eq_true] at hj
 exact hj.1
theorem FF7 {o a b : List Feat} {id : Str} (wo : wL aZ7 o ≤ 1048576) (wa : wL aZ7 a ≤ 1048576) (wb : wL aZ7 b ≤ 1048576) (fo : ∀ f, f ∈ o → bM7 f = true) (fa : ∀ f, f ∈ a → bM7 f = true) (fb : ∀ f, f ∈ b → bM7 f = true) : q27 o a b id = some ((cs7 o a b id).1.1, (cs7 o a b id).1.2, (cs7 o a b id).2) := by
 unfold q27 cs7
 have s1 := oq7 (s := o) (id := id)
 have s2 := oq7 (s := a) (id := id)
 have s3 := oq7 (s := b) (id := id)
 have n1 := gN7 (s := o) (id := id)
 have n2 := gN7 (s := a) (id := id)
 have n3 := gN7 (s := b) (id := id)
 have m1 := bx7 (id := id) fo
 have m2 := bx7 (id := id) fa
 have m3 := bx7 (id := id) fb
 rw [pz7 wo, pz7 wa, pz7 wb]
 generalize bH7 o id = so at *
 generalize bH7 a id = sa at *
 generalize bH7 b id = sb at *
 obtain ⟨ofe, oh⟩ := so
 obtain ⟨af, ah⟩ := sa
 obtain ⟨bf, bh⟩ := sb
 simp only at s1 s2 s3 n1 n2 n3 m1 m2 m3
 have e : (⟨af.id, ⟨af.shape.kind, af.shape.pts⟩, af.tags⟩ : Feat) = af := rfl
 simp only [Option.bind_some, e]
 rw [g47 (a := af) (b := ofe) (by omega), g47 (a := bf) (b := ofe) (by omega), g47 (a := af) (b := bf) (by omega)]
 simp only [Option.bind_some]
 unfold mJ1 by7
 simp only [Prod.mk.injEq]
 cases oh <;> cases ah <;> cases bh
 ·obtain rfl := (Prod.mk.inj (n1 rfl)).1
  obtain rfl := (Prod.mk.inj (n2 rfl)).1
  obtain rfl := (Prod.mk.inj (n3 rfl)).1
  simp
 ·obtain rfl := (Prod.mk.inj (n1 rfl)).1
  obtain rfl := (Prod.mk.inj (n2 rfl)).1
  simp
 ·obtain rfl := (Prod.mk.inj (n1 rfl)).1
  obtain rfl := (Prod.mk.inj (n3 rfl)).1
  simp
 ·by_cases h : af = bf <;> simp [h, FD7]
 ·obtain rfl := (Prod.mk.inj (n2 rfl)).1
  obtain rfl := (Prod.mk.inj (n3 rfl)).1
  simp
 ·by_cases h : bf = ofe <;> simp [h, vZ7]
 ·by_cases h : af = ofe <;> simp [h, vZ7]
 ·by_cases h1 : af = ofe
  ·simp [h1]
  ·by_cases h2 : bf = ofe
   ·simp [h1, h2]
   ·by_cases h3 : af = bf
    ·subst h3
     simp [h1]
    ·simp [h1, h2, h3, Bv7 (m1 rfl) (m2 rfl) (m3 rfl)]
def oF (o a b : List Feat) (id : Str) : List Feat := if (cs7 o a b id).1.2 = true then [(cs7 o a b id).1.1] else []
def oC (o a b : List Feat) (id : Str) : List ax7 := (cs7 o a b id).2.map fun w => ⟨id, w⟩
def sjF (o a b : List Feat) : List Feat := (i47 o a b).flatMap (oF o a b)
def sjC (o a b : List Feat) : List ax7 := (i47 o a b).flatMap (oC o a b)
def mSJ (o a b : List Feat) : List Feat × List ax7 × Bool := if (a87 o && (a87 a && (a87 b && a87 (sjF o a b)))) = true then (sjF o a b, sjC o a b, true) else ([], [], false)
theorem Bz7 {o a b : Feat} (ha : bM7 a = true) : bM7 (mFJ o a b).1 = true := by
 unfold mFJ
 split
 ·assumption
 ·exact ha
theorem FG7 {o a b : Feat} (ho : he7 o) (ha : he7 a) (hb : he7 b) : (fjW o a b).length ≤ 13 := by
 have hk := i27 (o := o.tags) (a := a.tags) (b := b.tags)
 have t1 := ho.tags; have t2 := ha.tags; have t3 := hb.tags
 have h3 := Bs7 (f := wOf o a b) (fun k => y97 k) (hd7 o.tags a.tags b.tags)
 unfold fjW
 rw [List.length_append]
 split
 ·rw [List.length_nil]; omega
 ·rw [List.length_singleton]; omega
section
variable {o a b : List Feat}
structure Sh (s : List Feat) : Prop where
 w : wL aZ7 s ≤ 1048576
 f : ∀ f, f ∈ s → bM7 f = true
theorem zc7 (ho : Sh o) (ha : Sh a) (hb : Sh b) (id : Str) (h : (cs7 o a b id).1.2 = true) : bM7 (cs7 o a b id).1.1 = true := by
 have n1 := gN7 (s := o) (id := id)
 have n2 := gN7 (s := a) (id := id)
 have n3 := gN7 (s := b) (id := id)
 have m1 := bx7 (id := id) ho.f
 have m2 := bx7 (id := id) ha.f
 have m3 := bx7 (id := id) hb.f
 unfold cs7 at h ⊢
 generalize bH7 o id = so at *
 generalize bH7 a id = sa at *
 generalize bH7 b id = sb at *
 unfold mJ1 at h ⊢
 split at h
 ·rename_i ht
  rw [if_pos ht]
  rcases my7 (o := so) (a := sa) (b := sb) with e | e
  ·rw [e] at h ⊢; exact m2 h
  ·rw [e] at h ⊢; exact m3 h
 ·rename_i ht
  rw [if_neg ht]
  by_cases h1 : sa.2 = false
  ·rw [if_pos h1]
   apply m3
   cases hb2 : sb.2 with
   | true => rfl
   | false =>
    exfalso
    apply ht
    have e : sa = sb := by rw [n2 h1, n3 hb2]
    unfold by7
    rw [e]
    by_cases q : sb = so <;> simp [q]
  ·rw [if_neg h1]
   have h1 : sa.2 = true := by cases h : sa.2 <;> simp_all
   split
   ·exact m2 h1
   ·split
    ·exact m2 h1
    ·exact Bz7 (m2 h1)
theorem zd7 (ho : Sh o) (ha : Sh a) (hb : Sh b) (id : Str) : (cs7 o a b id).2.length ≤ 13 := by
 have m1 := bx7 (id := id) ho.f
 have m2 := bx7 (id := id) ha.f
 have m3 := bx7 (id := id) hb.f
 unfold cs7
 generalize bH7 o id = so at *
 generalize bH7 a id = sa at *
 generalize bH7 b id = sb at *
 unfold mJ1
 split
 ·simp
 ·split
  ·simp
  ·split
   ·simp
   ·split
    ·simp
    ·rename_i h1 h2 h3
     have b1 := hZ7 (m1 (by cases h : so.2 <;> simp_all))
     have b2 := hZ7 (m2 (by cases h : sa.2 <;> simp_all))
     have b3 := hZ7 (m3 (by cases h : sb.2 <;> simp_all))
     have := FG7 b1 b2 b3
     unfold mFJ
     split
     ·exact this
     ·simp
theorem ze7 (id : Str) : (oF o a b id).length ≤ 1 := by
 unfold oF
 split <;> simp
theorem cl5 {id : Str} : ∀ (l : List Str) (k : Nat) (v : List ax7), v.length + l.length ≤ 1048576 → ek7 id l k v = some (v ++ l.map fun w => ⟨id, w⟩)
 | [], k, v, _ => by simp [ek7]
 | x :: l, k, v, h => by
  simp only [List.length_cons] at h
  simp only [ek7]
  rw [if_pos (aa7 (by simp; omega)), cl5 l _ _ (by simp; omega)]
  simp
theorem cl9 {id : Str} : ∀ (l : List Str) (k : Nat) (v : List ax7), v.length + l.length ≤ 1048576 → ex7 id l k v = some (v ++ l.map fun w => ⟨id, w⟩)
 | [], k, v, _ => by simp [ex7]
 | x :: l, k, v, h => by
  simp only [List.length_cons] at h
  simp only [ex7]
  rw [if_pos (aa7 (by simp; omega)), cl9 l _ _ (by simp; omega)]
  simp
theorem of_ {id : Str} {p : Bool} (h : (cs7 o a b id).1.2 = p) : oF o a b id = if p = true then [(cs7 o a b id).1.1] else [] := by
 unfold oF
 rw [h]
theorem zf7 (ho : Sh o) (ha : Sh a) (hb : Sh b) : ∀ (l : List Str) (k : Nat) (v : List Feat) (c : List ax7), v.length + l.length ≤ 10000 → c.length + 13 * l.length ≤ 100000 → el7 o a b l k v c = some (v ++ l.flatMap (oF o a b), c ++ l.flatMap (oC o a b))
 | [], k, v, c, _, _ => by simp [el7]
 | x :: l, k, v, c, hv, hc => by
  simp only [List.length_cons] at hv hc
  have hl := zd7 ho ha hb x
  simp only [el7]
  rw [FF7 ho.w ha.w hb.w ho.f ha.f hb.f, Option.bind_some]
  simp only
  have k1 : ((if (cs7 o a b x).1.2 = true then (if aH7 (v ++ ([(cs7 o a b x).1.1] : (List Feat))).length = true then some (v ++ ([(cs7 o a b x).1.1] : (List Feat))) else none) else (some v) : Option (List Feat))) = some (v ++ oF o a b x) := by
   cases h : (cs7 o a b x).1.2
   ·rw [of_ h]; simp
   ·rw [of_ h, if_pos rfl, if_pos (aa7 (by simp; omega))]; rfl
  have hf := ze7 (o := o) (a := a) (b := b) x
  rw [k1, Option.bind_some, if_pos (aa7 (by omega)), cl5 _ _ _ (by omega), Option.bind_some, zf7 ho ha hb l _ _ _ (by simp; omega) (by simp; omega), List.flatMap_cons, List.flatMap_cons, List.append_assoc, List.append_assoc]
  rfl
end
theorem bt7 {s : List Feat} (h : a87 s = true) : s.length ≤ 8 := by
 unfold a87 at h
 rw [Bool.and_eq_true] at h
 exact of_decide_eq_true h.2
theorem kG7 {s : List Feat} (h : a87 s = true) : Sh s := by
 have hf := tm7 h
 have hl := bt7 h
 have hw : h37 aZ7 s ≤ s.length * 100 := mz7 fun f hm => mt7 (hf f hm)
 exact ⟨by unfold wL; omega, hf⟩
section
variable {o a b : List Feat}
theorem FH7 : (sjF o a b).length ≤ o.length + a.length + b.length := by
 have h1 := Bs7 (f := oF o a b) (fun k => ze7 k) (i47 o a b)
 have h2 := i57 (o := o) (a := a) (b := b)
 unfold sjF
 omega
theorem BA7 (ho : Sh o) (ha : Sh a) (hb : Sh b) : ∀ f, f ∈ sjF o a b → bM7 f = true := fun f hf => by
 obtain ⟨id, _, h⟩ := List.mem_flatMap.1 hf
 unfold oF at h
 split at h
 ·rename_i h2
  rw [List.mem_singleton.1 h]
  exact zc7 ho ha hb id h2
 ·simp at h
theorem BB7 (ho : a87 o = true) (ha : a87 a = true) (hb : a87 b = true) : wL aZ7 (sjF o a b) ≤ 10000 := by
 have h1 := FH7 (o := o) (a := a) (b := b)
 have l1 := bt7 ho; have l2 := bt7 ha; have l3 := bt7 hb
 have hw : h37 aZ7 (sjF o a b) ≤ (sjF o a b).length * 100 := mz7 fun f hm => mt7 (BA7 (kG7 ho) (kG7 ha) (kG7 hb) f hm)
 unfold wL
 omega
theorem tn7 (wo : wL aZ7 o ≤ 1048576) (wa : wL aZ7 a ≤ 1048576) (wb : wL aZ7 b ≤ 1048576) : q57 o a b = some (mSJ o a b) := by
 unfold q57 mSJ
 rw [e67 wo, e67 wa, e67 wb]
 cases ho : a87 o
 ·rfl
 cases ha : a87 a
 ·rfl
 cases hb : a87 b
 ·rfl
 have l1 := bt7 ho; have l2 := bt7 ha; have l3 := bt7 hb
 have hi := i57 (o := o) (a := a) (b := b)
 have hw := BB7 ho ha hb
 simp only [Option.bind_some, Bool.not_true, Bool.false_eq_true, if_false, Bool.true_and]
 unfold uh7
 rw [FE7 (by omega), Option.bind_some, if_pos (aa7 (by omega)), zf7 (kG7 ho) (kG7 ha) (kG7 hb) _ _ _ _ (by simp; omega) (by simp; omega), Option.bind_some]
 simp only [List.nil_append]
 rw [show (i47 o a b).flatMap (oF o a b) = sjF o a b from rfl, ps7 (by omega), Option.bind_some, e67 (by omega)]
 cases a87 (sjF o a b) <;> rfl
def th (p : Feat × Bool) : do7 := ⟨p.2, p.1⟩
theorem mA7 {s : List Feat} {id : Str} (h : wL aZ7 s ≤ 1048576) : lX7 s id = some (th (bH7 s id)) := by
 unfold lX7
 rw [Mq7 h]
 rfl
theorem zg7 {p q : Feat × Bool} (h : aZ7 p.1 ≤ 1048576) : lY7 (th p) (th q) = some (decide (p = q)) := by
 obtain ⟨f, x⟩ := p
 obtain ⟨g, y⟩ := q
 unfold lY7 th
 simp only
 rw [og7 (a := f) (b := g) h]
 cases x <;> cases y <;> simp
theorem BC7 {o a b : Feat × Bool} (ha : aZ7 a.1 ≤ 1048576) (hb : aZ7 b.1 ≤ 1048576) : rp7 (th o) (th a) (th b) = some (th (by7 o a b).1, (by7 o a b).2) := by
 unfold rp7 by7
 rw [zg7 ha, zg7 hb, zg7 ha]
 simp only [Option.bind_some]
 by_cases h1 : a = o
 ·simp [h1]
 ·by_cases h2 : b = o
  ·simp [h1, h2]
  ·by_cases h3 : a = b
   ·simp [h1, h2, h3]
   ·simp [h1, h2, h3]
theorem to7 (ho : Sh o) (ha : Sh a) (hb : Sh b) (hid : ∀ id, (bH7 o id).2 = true → (bH7 o id).1.id = id) (hia : ∀ id, (bH7 a id).2 = true → (bH7 a id).1.id = id) (hib : ∀ id, (bH7 b id).2 = true → (bH7 b id).1.id = id) : ∀ (l : List Str) (k : Nat) (c : List ax7) (v : List Feat), v.length + l.length ≤ 10000 → c.length + 13 * l.length ≤ 100000 → dH7 o a b l k c v = some (c ++ l.flatMap (oC o a b), v ++ l.flatMap (oF o a b))
 | [], k, c, v, _, _ => by simp [dH7]
 | x :: l, k, c, v, hv, hc => by
  simp only [List.length_cons] at hv hc
  have hl := zd7 ho ha hb x
  have hf := ze7 (o := o) (a := a) (b := b) x
  have hfe := zc7 ho ha hb x
  have s1 := oq7 (s := o) (id := x)
  have s2 := oq7 (s := a) (id := x)
  have s3 := oq7 (s := b) (id := x)
  have w1 := ho.w; have w2 := ha.w; have w3 := hb.w
  have m1 := bx7 (id := x) ho.f
  have m2 := bx7 (id := x) ha.f
  have m3 := bx7 (id := x) hb.f
  have n2 := gN7 (s := a) (id := x)
  have n3 := gN7 (s := b) (id := x)
  have d1 := hid x; have d2 := hia x; have d3 := hib x
  simp only [dH7]
  rw [mA7 ho.w, Option.bind_some, mA7 ha.w, Option.bind_some, mA7 hb.w, Option.bind_some]
  simp only [Option.bind_some]
  have e1 : ∀ p : Feat × Bool, (⟨(th p).has, ⟨(th p).f.id, ⟨(th p).f.shape.kind, (th p).f.shape.pts⟩, (th p).f.tags⟩⟩ : do7) = th p := fun p => rfl
  have e2 : ∀ p : Feat × Bool, (⟨(th p).f.id, ⟨(th p).f.shape.kind, (th p).f.shape.pts⟩, (th p).f.tags⟩ : Feat) = p.1 := fun p => rfl
  have e3 : ∀ p : Feat × Bool, (th p).has = p.2 := fun p => rfl
  have e5 : ∀ p : Feat × Bool, (⟨p.2, p.1⟩ : do7) = th p := fun p => rfl
  simp only [e2, e3, e5]
  rw [BC7 (by omega) (by omega), Option.bind_some]
  have hj : cs7 o a b x = mJ1 (bH7 o x) (bH7 a x) (bH7 b x) := rfl
  refine (congrArg (fun z => Option.bind z _) (?_ : _ = some (c ++ oC o a b x, (cs7 o a b x).1.2, (cs7 o a b x).1.1.id, (cs7 o a b x).1.1.shape.kind, (cs7 o a b x).1.1.shape.pts, (cs7 o a b x).1.1.tags))).trans ?_
  ·unfold oC
   rw [hj] at hl ⊢
   generalize bH7 o x = so at *
   generalize bH7 a x = sa at *
   generalize bH7 b x = sb at *
   simp only [e3]
   unfold mJ1 at hl ⊢
   by_cases ht : (by7 so sa sb).2 = true
   ·rw [if_pos ht, if_pos ht]
    simp [th]
   ·rw [if_neg ht] at hl ⊢
    rw [if_neg ht]
    by_cases h1 : sa.2 = false
    ·have e : (!sa.2) = true := by rw [h1]; rfl
     rw [if_pos e, if_pos e, if_pos h1, if_pos (aa7 (by simp; omega))]
     have hb2 : sb.2 = true := by
      cases hb2 : sb.2 with
      | true => rfl
      | false =>
       exfalso
       apply ht
       have e : sa = sb := by rw [n2 h1, n3 hb2]
       unfold by7
       rw [e]
       by_cases q : sb = so <;> simp [q]
     simp [th, vZ7, hb2]
    ·have e : ¬ (!sa.2) = true := by cases h : sa.2 <;> simp_all
     have h1' : sa.2 = true := by cases h : sa.2 <;> simp_all
     rw [if_neg e, if_neg h1]
     rw [if_neg h1] at hl
     by_cases h2 : sb.2 = false
     ·have e' : (!sb.2) = true := by rw [h2]; rfl
      rw [if_pos e', if_neg e, if_pos h2, if_pos (aa7 (by simp; omega))]
      simp [th, vZ7, h1']
     ·have e' : ¬ (!sb.2) = true := by cases h : sb.2 <;> simp_all
      have h2' : sb.2 = true := by cases h : sb.2 <;> simp_all
      rw [if_neg e', if_neg h2]
      rw [if_neg h2] at hl
      by_cases h3 : so.2 = false
      ·have e'' : (!so.2) = true := by rw [h3]; rfl
       rw [if_pos e'', if_pos h3, if_pos (aa7 (by simp; omega))]
       simp [th, FD7, h1']
      ·have e'' : ¬ (!so.2) = true := by cases h : so.2 <;> simp_all
       have h3' : so.2 = true := by cases h : so.2 <;> simp_all
       rw [if_neg e'', if_neg h3]
       rw [if_neg h3] at hl
       have hFJ : MQ7 so.1 sa.1 sb.1 = mFJ so.1 sa.1 sb.1 := by
        unfold MQ7
        rw [m1 h3', m2 h1', m3 h2', d1 h3', d2 h1', d3 h2']
        simp
       rw [vY7 (by omega) (by omega) (by omega), hFJ]
       simp only [Option.bind_some]
       simp only at hl
       rw [if_pos (aa7 (by omega)), cl9 _ _ _ (by omega)]
       rfl
  ·simp only [Option.bind_some]
   have e4 : (⟨(cs7 o a b x).1.1.id, ⟨(cs7 o a b x).1.1.shape.kind, (cs7 o a b x).1.1.shape.pts⟩, (cs7 o a b x).1.1.tags⟩ : Feat) = (cs7 o a b x).1.1 := rfl
   rw [e4]
   have hcl : (oC o a b x).length ≤ 13 := by unfold oC; rw [List.length_map]; exact hl
   cases h : (cs7 o a b x).1.2
   ·rw [if_neg (by decide), to7 ho ha hb hid hia hib l _ _ _ (by omega) (by simp; omega), List.flatMap_cons, List.flatMap_cons, of_ h]
    simp
   ·have hw := mt7 (hfe h)
    rw [if_pos rfl, f57 (by omega), Option.bind_some, if_pos (aa7 (by simp; omega)), to7 ho ha hb hid hia hib l _ _ _ (by simp; omega) (by simp; omega), List.flatMap_cons, List.flatMap_cons, of_ h]
    simp
theorem tp7 {s : List Feat} (id : Str) (h : (bH7 s id).2 = true) : (bH7 s id).1.id = id := by
 unfold bH7 at h ⊢
 split
 ·rename_i f e
  simpa using List.find?_some e
 ·rename_i e
  rw [e] at h
  cases h
theorem mB7 (wo : wL aZ7 o ≤ 1048576) (wa : wL aZ7 a ≤ 1048576) (wb : wL aZ7 b ≤ 1048576) : n67 o a b = some (mSJ o a b) := by
 unfold n67 mSJ
 rw [gH7 wo, gH7 wa, gH7 wb]
 cases ho : a87 o
 ·rfl
 cases ha : a87 a
 ·rfl
 cases hb : a87 b
 ·rfl
 have l1 := bt7 ho; have l2 := bt7 ha; have l3 := bt7 hb
 have hi := i57 (o := o) (a := a) (b := b)
 have hw := BB7 ho ha hb
 simp only [Option.bind_some, Bool.not_true, Bool.false_eq_true, if_false, Bool.true_and]
 rw [By7 (yZ7 ho) (by omega), Option.bind_some, if_pos (aa7 (by omega)), to7 (kG7 ho) (kG7 ha) (kG7 hb) tp7 tp7 tp7 _ _ _ _ (by simp; omega) (by simp; omega), Option.bind_some]
 simp only [List.nil_append]
 rw [show (i47 o a b).flatMap (oF o a b) = sjF o a b from rfl, gH7 (by omega), Option.bind_some]
 cases a87 (sjF o a b) <;> rfl
end
def mC7 (c : ax7) : Nat := c.id.size + (c.what.size + 0)
theorem Mt7 {α β : Type} {f : α → List β} {n : Nat} : ∀ (l : List α), (∀ x, x ∈ l → (f x).length ≤ n) → (l.flatMap f).length ≤ n * l.length
 | [], _ => Nat.zero_le _
 | x :: l, h => by
  have h1 := h x (by simp)
  have h2 := Mt7 l fun y hy => h y (by simp [hy])
  rw [List.flatMap_cons, List.length_append, List.length_cons, Nat.mul_add]
  omega
section
variable {o a b : List Feat}
theorem FI7 (ho : Sh o) (ha : Sh a) (hb : Sh b) (id : Str) : ∀ w, w ∈ (cs7 o a b id).2 → w.size ≤ 11 := by
 have m1 := bx7 (id := id) ho.f
 have m2 := bx7 (id := id) ha.f
 have m3 := bx7 (id := id) hb.f
 unfold cs7
 generalize bH7 o id = so at *
 generalize bH7 a id = sa at *
 generalize bH7 b id = sb at *
 intro w hw
 unfold mJ1 at hw
 split at hw
 ·simp at hw
 ·split at hw
  ·rw [List.mem_singleton.1 hw]; decide
  ·split at hw
   ·rw [List.mem_singleton.1 hw]; decide
   ·split at hw
    ·rw [List.mem_singleton.1 hw]; decide
    ·rename_i h1 h2 h3
     have b1 := hZ7 (m1 (by cases h : so.2 <;> simp_all))
     have b2 := hZ7 (m2 (by cases h : sa.2 <;> simp_all))
     have b3 := hZ7 (m3 (by cases h : sb.2 <;> simp_all))
     unfold mFJ at hw
     split at hw
     ·unfold fjW at hw
      rcases List.mem_append.1 hw with h | h
      ·split at h
       ·cases h
       ·rw [List.mem_singleton.1 h]; decide
      ·obtain ⟨k, hk, h⟩ := List.mem_flatMap.1 h
       have := i37 b1 b2 b3 k hk
       unfold wOf at h
       split at h
       ·cases h
       ·rw [List.mem_singleton.1 h, ByteArray.size_append]
        have e : tagW.size = 4 := rfl
        omega
     ·rw [List.mem_singleton.1 hw]; decide
theorem BD7 (h : (mSJ o a b).2.2 = true) : a87 (mSJ o a b).1 = true ∧ wL aZ7 (mSJ o a b).1 ≤ 10000 := by
 unfold mSJ at h ⊢
 split
 ·rename_i hc
  simp only [Bool.and_eq_true] at hc
  exact ⟨hc.2.2.2, BB7 hc.1 hc.2.1 hc.2.2.1⟩
 ·rename_i hc
  rw [if_neg hc] at h
  cases h
theorem Rw7 : wL aZ7 (mSJ o a b).1 ≤ 10000 := by
 unfold mSJ
 split
 ·rename_i hc
  simp only [Bool.and_eq_true] at hc
  exact BB7 hc.1 hc.2.1 hc.2.2.1
 ·exact Nat.zero_le _
theorem BE7 : wL mC7 (mSJ o a b).2.1 ≤ 100000 := by
 unfold mSJ
 split
 ·rename_i hc
  simp only [Bool.and_eq_true] at hc
  have so := kG7 hc.1; have sa := kG7 hc.2.1; have sb := kG7 hc.2.2.1
  have l1 := bt7 hc.1; have l2 := bt7 hc.2.1; have l3 := bt7 hc.2.2.1
  have hi := i57 (o := o) (a := a) (b := b)
  have hl : (sjC o a b).length ≤ 13 * (i47 o a b).length := Mt7 _ fun id _ => by
   unfold oC
   rw [List.length_map]
   exact zd7 so sa sb id
  have hw : ∀ c, c ∈ sjC o a b → mC7 c ≤ 18 := fun c hc => by
   obtain ⟨id, hid, h⟩ := List.mem_flatMap.1 hc
   unfold oC at h
   obtain ⟨w, hw, rfl⟩ := List.mem_map.1 h
   have h1 := FI7 so sa sb id w hw
   have h2 : id.size ≤ 7 := by
    rcases sh7.1 hid with h | h | h <;> obtain ⟨f, hf, rfl⟩ := List.mem_map.1 h
    ·exact (hZ7 (so.f f hf)).id
    ·exact (hZ7 (sa.f f hf)).id
    ·exact (hZ7 (sb.f f hf)).id
   unfold mC7
   simp only
   omega
  have := mz7 (w := mC7) (c := 18) hw
  unfold wL
  simp only
  omega
 ·exact Nat.zero_le _
end
def Mu7 (r : am7) (k : Int) : List Feat := ((r.commits[k.toNat]?).map Commit.sheet).getD []
theorem dP7 {r : am7} {k : Nat} {x : Commit} (h : r.commits[k]? = some x) : Mu7 r (k : Int) = x.sheet := by
 unfold Mu7
 rw [Int.toNat_natCast, h]
 rfl
noncomputable def ap7 (r : am7) (a b : Int) : List Feat × List ax7 × Bool :=
 if (inR r a && inR r b) = true then mSJ (Mu7 r (cW7 r a b)) (Mu7 r a) (Mu7 r b) else ([], [], false)
theorem zh7 {r : am7} {a b : Int} (hw : ba7 r ≤ 1048576) : n77 r a b = some (ap7 r a b) := by
 unfold n77 ap7
 rw [oj7 hw, Option.bind_some]
 by_cases h : (inR r a && inR r b) = true
 ·rw [if_pos h]
  simp only [Bool.and_eq_true] at h
  obtain ⟨hr, x, rfl, hx⟩ := ko7 h.1
  obtain ⟨_, y, rfl, hy⟩ := ko7 h.2
  obtain ⟨k, k1, k2, _, _⟩ := gK7 hr hx hy
  obtain ⟨c1, h1⟩ := gp7 hx
  obtain ⟨c2, h2⟩ := gp7 hy
  obtain ⟨c3, h3⟩ := gp7 k2
  rw [k1, if_neg (by simp), ag7, h3, Option.bind_some, ag7, h1, Option.bind_some, ag7, h2, Option.bind_some, mB7 (f77 hw h3) (f77 hw h1) (f77 hw h2), dP7 h1, dP7 h2, dP7 h3]
  rfl
 ·rw [iY7 h, if_neg h]
  rfl
theorem zi7 {r : am7} {a b : Int} (hw : ba7 r ≤ 1048576) : nT7 r a b = some (ap7 r a b) := by
 unfold nT7 ap7
 rw [vV7 hw, Option.bind_some]
 by_cases h : (inR r a && inR r b) = true
 ·rw [if_pos h]
  simp only [Bool.and_eq_true] at h
  obtain ⟨hr, x, rfl, hx⟩ := ko7 h.1
  obtain ⟨_, y, rfl, hy⟩ := ko7 h.2
  obtain ⟨k, k1, k2, _, _⟩ := gK7 hr hx hy
  obtain ⟨c1, h1⟩ := gp7 hx
  obtain ⟨c2, h2⟩ := gp7 hy
  obtain ⟨c3, h3⟩ := gp7 k2
  rw [k1, if_neg (by simp), ag7, h3, Option.bind_some, ag7, h1, Option.bind_some, ag7, h2, Option.bind_some, tn7 (f77 hw h3) (f77 hw h1) (f77 hw h2), dP7 h1, dP7 h2, dP7 h3]
  rfl
 ·rw [iY7 h, if_neg h]
  rfl
theorem uZ7 {r : am7} {a b : Int} (h : (ap7 r a b).2.2 = true) : a87 (ap7 r a b).1 = true ∧ wL aZ7 (ap7 r a b).1 ≤ 10000 := by
 unfold ap7 at h ⊢
 split
 ·rename_i h1
  rw [if_pos h1] at h
  exact BD7 h
 ·rename_i h1
  rw [if_neg h1] at h
  cases h
def pD7 (r : am7) (i : Nat) (z : Head) (c : Commit) : Bool × am7 :=
 if cl7 r.commits c < 0 then (if r.commits.length = 14 then (false, r) else (true, ⟨r.commits ++ [c], eG7 r.heads i z r.commits.length⟩)) else (true, ⟨r.commits, eG7 r.heads i z (cl7 r.commits c)⟩)
theorem Qq7 {r : am7} {i : Nat} {z : Head} {c : Commit} (hw : ba7 r ≤ 1048576) (hz : r.heads[i]? = some z) (hc : aA7 c ≤ 1048576) : rr7 r (i : Int) c = some (pD7 r i z c) := by
 have hcw : wL aA7 r.commits ≤ 1048576 := by unfold ba7 at hw; omega
 have hcl : r.commits.length ≤ 1048576 := by unfold wL at hcw; omega
 unfold rr7 pD7
 rw [iP7 hcw]
 simp only [Option.bind_some]
 by_cases f1 : cl7 r.commits c < 0
 ·by_cases f2 : r.commits.length = 14
  ·simp [f1, f2]
  ·have f2' : ¬ ((r.commits.length : Int) = 14) := by omega
   have hfit : aH7 (r.commits.length + 1) = true := by unfold aH7; exact decide_eq_true (by omega)
   simp [f1, f2, f2', iT7 hc, ag7, hz, hfit, eG7]
 ·simp [f1, ag7, hz, eG7]
theorem BF7 {c : Commit} (h : aA7 c ≤ 1048576) : j77 c = some c := by
 unfold aA7 wL at h
 unfold j77
 rw [if_pos (aa7 (by simp; omega)), ps7 (by unfold wL; omega)]
 rfl
theorem u07 {r : am7} {i : Nat} {z : Head} {c : Commit} (hw : ba7 r ≤ 1048576) (hz : r.heads[i]? = some z) (hc : aA7 c ≤ 1048576) (h : (pD7 r i z c).1 = true) : ix7 r (i : Int) c = some (pD7 r i z c).2 := by
 have hcw : wL aA7 r.commits ≤ 1048576 := by unfold ba7 at hw; omega
 have hcl : r.commits.length ≤ 1048576 := by unfold wL at hcw; omega
 unfold ix7
 unfold pD7 at h ⊢
 rw [kW7 hcw]
 simp only [Option.bind_some]
 by_cases f1 : cl7 r.commits c < 0
 ·by_cases f2 : r.commits.length = 14
  ·simp [f1, f2] at h
  ·have hfit : aH7 (r.commits.length + 1) = true := by unfold aH7; exact decide_eq_true (by omega)
   simp [f1, f2, BF7 hc, ag7, hz, hfit, eG7]
 ·simp [f1, ag7, hz, eG7]
noncomputable def mJW (r : am7) (i : Nat) (z : Head) (b : Int) (t : Str) : am7 × List ax7 × Int :=
 if (ap7 r z.at_ b).2.2 = true then
  if (ap7 r z.at_ b).2.1 = [] then
   if (pD7 r i z ⟨[z.at_, b], (ap7 r z.at_ b).1, t⟩).1 = true then ((pD7 r i z ⟨[z.at_, b], (ap7 r z.at_ b).1, t⟩).2, [], 0) else (r, [], 5)
  else (r, (ap7 r z.at_ b).2.1, 3)
 else (r, [], 5)
open Classical in
noncomputable def mJH (r : am7) (n f t : Str) : am7 × List ax7 × Int :=
 if (bk7 r && bd7 t) = true then
  match idx r.heads (be7 r.heads n), idx r.heads (be7 r.heads f) with
  | some z, some y =>
   if Anc r.commits z.at_.toNat y.at_.toNat then (r, [], 1)
   else if Anc r.commits y.at_.toNat z.at_.toNat then (⟨r.commits, eG7 r.heads (be7 r.heads n).toNat z y.at_⟩, [], 2)
   else mJW r (be7 r.heads n).toNat z y.at_ t
  | _, _ => (r, [], 4)
 else (⟨[], []⟩, [], 6)
theorem zj7 {t : Str} (h : bd7 t = true) : t.size ≤ 6 := by
 unfold bd7 at h
 simp only [Bool.and_eq_true, decide_eq_true_eq] at h
 exact h.2.2
theorem i67 {r : am7} {z : Head} {b : Int} {t : Str} (ht : bd7 t = true) (h : (ap7 r z.at_ b).2.2 = true) : aA7 ⟨[z.at_, b], (ap7 r z.at_ b).1, t⟩ ≤ 20000 := by
 have h1 := uZ7 h
 have h2 := zj7 ht
 unfold aA7
 simp [wL, h37, w0] at h1 ⊢
 omega
open Classical in
theorem si7 {r : am7} {n f t : Str} (hw : ba7 r ≤ 1048576) (ht : t.size ≤ 1048576) (hJ : ∀ z y, idx r.heads (be7 r.heads n) = some z → idx r.heads (be7 r.heads f) = some y → n77 r z.at_ y.at_ = some (ap7 r z.at_ y.at_)) : n97 r n f t = some (mJH r n f t) := by
 have hh : r.heads.length ≤ 1048576 := by unfold ba7 wL at hw; omega
 unfold n97 mJH
 rw [iQ7 hw, g37 ht, tc7 hw, f17 hh, f17 hh]
 simp only [Option.bind_some]
 by_cases hr : bk7 r = true
 ·by_cases h2 : bd7 t = true
  ·have hl := dO7 hr
   have hc := cV7 hr
   have hcl : r.commits.length ≤ 1048576 := by omega
   rw [hr, h2]
   rcases hV7 hr n with h | ⟨k, a, z, g1, g2, g3, g4, g5⟩
   ·rw [h]
    rfl
   ·rcases hV7 hr f with h' | ⟨j, b, y, q1, q2, q3, q4, q5⟩
    ·rw [h', g1, ag7, g2]
     have e1 : ¬ ((k : Int) < 0) := by omega
     simp [e1, idx]
    ·have e1 : ¬ ((k : Int) < 0) := by omega
     have e2 : ¬ ((j : Int) < 0) := by omega
     have hj := hJ z y (by rw [g1, ag7, g2]) (by rw [q1, ag7, q2])
     rw [q4] at hj
     rw [g1, q1, ag7, ag7, g2, q2]
     simp only [Bool.not_true, Bool.and_self, Bool.false_eq_true, if_true, if_false, Option.bind_some, e1, e2, decide_false, g4, q4, Int.toNat_natCast, oi7 hc hcl g5, oi7 hc hcl q5, ag7, d07 g5, d07 q5, decide_eq_true_eq]
     by_cases a1 : Anc r.commits a b
     ·rw [if_pos a1, if_pos a1]
     ·rw [if_neg a1, if_neg a1]
      by_cases a2 : Anc r.commits b a
      ·rw [if_pos a2, if_pos a2]
       rfl
      ·rw [if_neg a2, if_neg a2]
       unfold mJW
       rw [← g4] at *
       rw [hj, Option.bind_some]
       by_cases j1 : (ap7 r z.at_ b).2.2 = true
       ·by_cases j2 : (ap7 r z.at_ b).2.1 = []
        ·have hcm := i67 (b := (b : Int)) h2 j1
         rw [Qq7 hw g2 (by omega)]
         simp only [j1, j2, Option.bind_some, Bool.not_true, Bool.false_eq_true, if_false, List.length_nil, if_true]
         cases hs : (pD7 r k z ⟨[z.at_, (b : Int)], (ap7 r z.at_ b).1, t⟩).1
         ·have : (pD7 r k z ⟨[z.at_, (b : Int)], (ap7 r z.at_ b).1, t⟩).2 = r := by
           unfold pD7 at hs ⊢
           split at hs
           ·split at hs
            ·rename_i u1 u2
             rw [if_pos u1, if_pos u2]
            ·cases hs
           ·cases hs
          simp [this]
         ·simp
        ·have j2' : ((ap7 r z.at_ b).2.1.length : Int) > 0 := by
          have := List.length_pos_iff.2 j2
          omega
         simp only [j1, Bool.not_true, Bool.false_eq_true, if_false, j2', decide_true, if_true, j2]
       ·simp only [Bool.not_eq_true] at j1
        simp only [j1, Bool.not_false, if_true, Bool.false_eq_true, if_false]
  ·simp only [Bool.not_eq_true] at h2
   rw [hr, h2]
   rfl
 ·simp only [Bool.not_eq_true] at hr
  rw [hr]
  rfl
theorem tq7 {r : am7} {n f t : Str} (hw : ba7 r ≤ 1048576) (ht : t.size ≤ 1048576) : n97 r n f t = some (mJH r n f t) := si7 hw ht fun z y _ _ => zh7 hw
open Classical in
theorem mD7 {r : am7} {i k : Nat} (hw : ba7 r ≤ 1048576) (hr : bk7 r = true) (hi : i < r.commits.length) (hk : k < r.commits.length) : nU7 r (i : Int) (k : Int) = some (decide (Anc r.commits k i)) := by
 have hl := dO7 hr
 unfold nU7
 rw [uE7 hw, Option.bind_some, hr, if_pos (by simp; omega), uE7 hw, Option.bind_some, hr, if_pos (by simp; omega), jG7 (cV7 hr) (by omega) hk, Option.bind_some, ag7, d07 hi]
 rfl
open Classical in
theorem sj7 {r : am7} {n f t : Str} (hw : ba7 r ≤ 1048576) (ht : t.size ≤ 1048576) (hJ : ∀ z y, idx r.heads (be7 r.heads n) = some z → idx r.heads (be7 r.heads f) = some y → nT7 r z.at_ y.at_ = some (ap7 r z.at_ y.at_)) : n87 r n f t = some (mJH r n f t) := by
 have hh : r.heads.length ≤ 1048576 := by unfold ba7 wL at hw; omega
 unfold n87 mJH
 rw [pq7 hw, eE7 ht, pt7 hw, g57 hh, g57 hh]
 simp only [Option.bind_some]
 by_cases hr : bk7 r = true
 ·by_cases h2 : bd7 t = true
  ·have hl := dO7 hr
   have hc := cV7 hr
   have hcl : r.commits.length ≤ 1048576 := by omega
   have hcw : wL aA7 r.commits ≤ 1048576 := by unfold ba7 at hw; omega
   rw [hr, h2]
   rcases hV7 hr n with h | ⟨k, a, z, g1, g2, g3, g4, g5⟩
   ·rw [h]
    rfl
   ·rcases hV7 hr f with h' | ⟨j, b, y, q1, q2, q3, q4, q5⟩
    ·rw [h', g1, ag7, g2]
     have e1 : ¬ ((k : Int) < 0) := by omega
     simp [e1, idx]
    ·have e1 : ¬ ((k : Int) < 0) := by omega
     have e2 : ¬ ((j : Int) < 0) := by omega
     have hj := hJ z y (by rw [g1, ag7, g2]) (by rw [q1, ag7, q2])
     rw [q4] at hj
     rw [g1, q1, ag7, ag7, g2, q2]
     simp only [Bool.not_true, Bool.and_self, Bool.false_eq_true, if_true, if_false, Option.bind_some, e1, e2, decide_false, g4, q4, Int.toNat_natCast, mD7 hw hr g5 q5, mD7 hw hr q5 g5, decide_eq_true_eq]
     by_cases a1 : Anc r.commits a b
     ·rw [if_pos a1, if_pos a1]
     ·rw [if_neg a1, if_neg a1]
      by_cases a2 : Anc r.commits b a
      ·rw [if_pos a2, if_pos a2]
       rfl
      ·rw [if_neg a2, if_neg a2]
       unfold mJW ui7
       rw [← g4] at *
       rw [hj, Option.bind_some]
       by_cases j1 : (ap7 r z.at_ b).2.2 = true
       ·by_cases j2 : (ap7 r z.at_ b).2.1 = []
        ·have hcm := i67 (b := (b : Int)) h2 j1
         rw [kW7 hcw]
         simp only [j1, j2, Option.bind_some, Bool.not_true, Bool.false_eq_true, if_false, List.length_nil, if_true]
         by_cases f1 : cl7 r.commits ⟨[z.at_, (b : Int)], (ap7 r z.at_ b).1, t⟩ < 0
         ·by_cases f2 : r.commits.length = 14
          ·simp [pD7, f1, f2]
          ·have f2' : ¬ ((14 : Int) ≤ (r.commits.length : Int)) := by omega
           have hs : (pD7 r k z ⟨[z.at_, (b : Int)], (ap7 r z.at_ b).1, t⟩).1 = true := by simp [pD7, f1, f2]
           rw [u07 hw g2 (by omega) hs, hs]
           simp [f1, f2']
         ·have hs : (pD7 r k z ⟨[z.at_, (b : Int)], (ap7 r z.at_ b).1, t⟩).1 = true := by simp [pD7, f1]
          rw [u07 hw g2 (by omega) hs, hs]
          simp [f1]
        ·have j2' : ((ap7 r z.at_ b).2.1.length : Int) > 0 := by
          have := List.length_pos_iff.2 j2
          omega
         simp only [j1, Bool.not_true, Bool.false_eq_true, if_false, j2', decide_true, if_true, j2, Option.bind_some]
       ·simp only [Bool.not_eq_true] at j1
        simp only [j1, Bool.not_false, if_true, Bool.false_eq_true, if_false, Option.bind_some]
  ·simp only [Bool.not_eq_true] at h2
   rw [hr, h2]
   rfl
 ·simp only [Bool.not_eq_true] at hr
  rw [hr]
  rfl
theorem tr7 {r : am7} {n f t : Str} (hw : ba7 r ≤ 1048576) (ht : t.size ≤ 1048576) : n87 r n f t = some (mJH r n f t) := sj7 hw ht fun z y _ _ => zi7 hw
theorem BG7 {r : am7} {a b : Int} : wL mC7 (ap7 r a b).2.1 ≤ 100000 := by
 unfold ap7
 split
 ·exact BE7
 ·exact Nat.zero_le _
theorem Rx7 {r : am7} {a b : Int} : wL aZ7 (ap7 r a b).1 ≤ 10000 := by
 unfold ap7
 split
 ·exact Rw7
 ·exact Nat.zero_le _
theorem mE7 {hs : List Head} {i : Nat} {h : Head} {v : Int} (hh : hs[i]? = some h) : wL hS7 (eG7 hs i h v) ≤ wL hS7 hs := by
 have := pu7 (w := hS7) hs i h ⟨h.name, v⟩ hh (Nat.le_refl _)
 unfold wL eG7
 simp only [List.length_set]
 omega
theorem CC7 {r : am7} {i : Nat} {z : Head} {c : Commit} (hz : r.heads[i]? = some z) : ba7 (pD7 r i z c).2 ≤ ba7 r + (1 + aA7 c) := by
 unfold pD7
 split
 ·split
  ·exact Nat.le_add_right _ _
  ·have h1 := mE7 (v := r.commits.length) hz
   have h2 := mj7 (w := aA7) r.commits c
   unfold ba7
   unfold wL at *
   simp only [List.length_append, List.length_singleton]
   omega
 ·have h1 := mE7 (v := cl7 r.commits c) hz
  unfold ba7
  simp only
  omega
theorem Qr7 {r : am7} {i : Nat} {z : Head} {b : Int} {t : Str} (hz : r.heads[i]? = some z) (ht : bd7 t = true) : ba7 (mJW r i z b t).1 ≤ ba7 r + 20001 ∧ wL mC7 (mJW r i z b t).2.1 ≤ 100000 := by
 have hc := BG7 (r := r) (a := z.at_) (b := b)
 unfold mJW
 split
 ·rename_i h1
  have hw := i67 (b := b) ht h1
  split
  ·split
   ·have := CC7 (c := ⟨[z.at_, b], (ap7 r z.at_ b).1, t⟩) hz
    exact ⟨by simp only; omega, Nat.zero_le _⟩
   ·exact ⟨by simp only; omega, Nat.zero_le _⟩
  ·exact ⟨by simp only; omega, hc⟩
 ·exact ⟨by simp only; omega, Nat.zero_le _⟩
theorem Qs7 {r : am7} {n f t : Str} : ba7 (mJH r n f t).1 ≤ ba7 r + 20001 ∧ wL mC7 (mJH r n f t).2.1 ≤ 100000 := by
 unfold mJH
 split
 ·rename_i h
  simp only [Bool.and_eq_true] at h
  split
  ·rename_i z y hz hy
   have hz' := (aF7 hz).2
   split
   ·exact ⟨by simp only; omega, Nat.zero_le _⟩
   ·split
    ·have h1 := mE7 (v := y.at_) hz'
     refine ⟨?_, Nat.zero_le _⟩
     unfold ba7
     simp only
     omega
    ·exact Qr7 hz' h.2
  ·exact ⟨by simp only; omega, Nat.zero_le _⟩
 ·exact ⟨Nat.zero_le _, Nat.zero_le _⟩
section
variable {o a b : Feat}
end
section
variable {o a b : List Feat}
end
theorem Mv7 (x y : ax7) : ((x.id == y.id) && ((x.what == y.what) && true)) = decide (x = y) := by
 obtain ⟨a, b⟩ := x; obtain ⟨c, d⟩ := y
 simp only [Ho7]
 by_cases h1 : a = c <;> by_cases h2 : b = d <;> simp [h1, h2]
theorem ts7 {a b : List ax7} (h : a.length ≤ 1048576) : rH7 a b = some (decide (a = b)) := by
 have h1 : uw7 a b = some (decide (a = b)) := cN7 (gl := fT7) (ok := fun _ => True) (fun _ _ => rfl) (fun a x l k y _ hy => by
  simp only [fT7, ag7, hy, Option.bind_some, Mv7]
  by_cases e : x = y <;> simp [e]) (fun _ _ => rfl) h (fun _ _ => trivial)
 unfold rH7
 rw [h1]
 rfl
theorem sk7 (code : List UInt8) : ∃ r n f t, rI7 code = some (r, n, f, t) ∧ bR r ∧ n ∈ nm3 ∧ f ∈ nm3 ∧ t.size ≤ 7 := by
 obtain ⟨b, h0, hb⟩ := Fu7 code
 obtain ⟨r, p1, h1, a1, b1, hr⟩ := yQ7 b 0 hb (by omega) (by omega)
 obtain ⟨n, p2, h2, a2, b2, hn⟩ := ml7 b p1 hb (by omega) (by omega)
 obtain ⟨f, p3, h3, a3, b3, hf⟩ := ml7 b p2 hb (by omega) (by omega)
 obtain ⟨t, p4, h4, a4, b4, ht⟩ := r27 (l := [(⟨#[97, 110, 110]⟩ : Str), (⟨#[106, 111, 105, 110]⟩ : Str), (⟨#[]⟩ : Str), (⟨#[98, 111, 98]⟩ : Str)]) (by simp) b p3 hb (by omega) (by omega)
 simp only at h2 h3 h4
 unfold rI7
 rw [h0, Option.bind_some, h1, Option.bind_some]
 simp only
 rw [h2, Option.bind_some]
 simp only
 rw [h3, Option.bind_some]
 simp only
 rw [h4]
 exact ⟨r, n, f, t, rfl, hr, hn, hf, (by decide : ∀ y ∈ [(⟨#[97, 110, 110]⟩ : Str), (⟨#[106, 111, 105, 110]⟩ : Str), (⟨#[]⟩ : Str), (⟨#[98, 111, 98]⟩ : Str)], y.size ≤ 7) t ht⟩
theorem pE7 {r : am7} {x : Commit} (h : bk7 r = true) (hl : r.commits.length < 14) (hu : mUp x.up r.commits.length = true) (hs : a87 x.sheet = true) (ht : bd7 x.note = true) (hno : cl7 r.commits x < 0) :
  bk7 ⟨r.commits ++ [x], r.heads⟩ = true := by
 obtain ⟨a, b, c, d⟩ := e77.1 h
 have e : cl7 r.commits x = aM7 (fun y : Commit => decide (y = x)) r.commits 0 := rfl
 have hf : cl7 (r.commits ++ [x]) x = (r.commits.length : Int) := by
  unfold cl7
  rw [tg7, ← e, if_pos hno]
  simp [aM7]
 refine e77.2 ⟨⟨by simp, by simp; omega⟩, b, ?_, ?_⟩
 ·unfold cO7
  rw [mq7, Bool.and_eq_true]
  constructor
  ·refine mr7 (fun j x hx hp => ?_) c
   simp only [Nat.zero_add, Bool.and_eq_true, decide_eq_true_eq] at hp ⊢
   refine ⟨hp.1, hp.2.1, hp.2.2.1, ?_⟩
   have e2 : cl7 r.commits x = aM7 (fun y : Commit => decide (y = x)) r.commits 0 := rfl
   unfold cl7
   rw [tg7, ← e2, if_neg (by omega)]
   exact hp.2.2.2
  ·simp only [a07, Nat.zero_add, Bool.and_true, Bool.and_eq_true, decide_eq_true_eq]
   exact ⟨hu, hs, ht, hf⟩
 ·refine mr7 (fun j x hx hp => ?_) d
  simp only [Nat.zero_add, Bool.and_eq_true, decide_eq_true_eq, List.length_append, List.length_singleton] at hp ⊢
  exact ⟨hp.1, hp.2.1, hp.2.2.1, by omega⟩
structure At (r : am7) (n : Str) (i : Nat) (z : Head) (a : Nat) : Prop where
 repo : bk7 r = true
 hd : be7 r.heads n = (i : Int)
 get : r.heads[i]? = some z
 name : z.name = n
 at_ : z.at_ = (a : Int)
 lt : a < r.commits.length
theorem At.of {r : am7} (hr : bk7 r = true) (n : Str) : be7 r.heads n = -1 ∨ ∃ i z a, At r n i z a := by
 rcases hV7 hr n with h | ⟨k, a, z, g1, g2, g3, g4, g5⟩
 ·exact .inl h
 ·exact .inr ⟨k, z, a, hr, g1, g2, g3, g4, g5⟩
theorem At.repoAt {r : am7} {n : Str} {i a : Nat} {z : Head} (h : At r n i z a) : f47 r n = (a : Int) := by rw [yU7 h.repo h.hd h.get, h.at_]
theorem FJ7 {r : am7} {n f t : Str} (h : ¬ (bk7 r && bd7 t) = true) : mJH r n f t = (⟨[], []⟩, [], 6) := by
 unfold mJH
 rw [if_neg h]
theorem zk7 {r : am7} {n f t : Str} (hr : bk7 r = true) (ht : bd7 t = true) (h : be7 r.heads n = -1 ∨ be7 r.heads f = -1) : mJH r n f t = (r, [], 4) := by
 unfold mJH
 rw [if_pos (by rw [hr, ht]; rfl)]
 split
 ·rename_i z y h1 h2
  have g1 := (aF7 h1).1
  have g2 := (aF7 h2).1
  omega
 ·rfl
open Classical in
theorem Mw7 {r : am7} {n f t : Str} {i j a b : Nat} {z y : Head} (ht : bd7 t = true) (h1 : At r n i z a) (h2 : At r f j y b) : mJH r n f t =
  if Anc r.commits a b then (r, [], 1) else if Anc r.commits b a then (⟨r.commits, eG7 r.heads i z b⟩, [], 2) else mJW r i z b t := by
 unfold mJH
 rw [if_pos (by rw [h1.repo, ht]; rfl), h1.hd, h2.hd, ag7, ag7, h1.get, h2.get]
 simp only [h1.at_, h2.at_, Int.toNat_natCast]
structure Fused (r : am7) (t : Str) (i : Nat) (z : Head) (a b : Nat) (q : am7) (m : Nat) : Prop where
 heads : q.heads = r.heads.set i ⟨z.name, (m : Int)⟩
 comm : (q.commits = r.commits ∧ m < r.commits.length) ∨ (q.commits = r.commits ++ [⟨[(a : Int), (b : Int)], (ap7 r a b).1, t⟩] ∧ m = r.commits.length ∧ r.commits.length < 14)
 get : q.commits[m]? = some ⟨[(a : Int), (b : Int)], (ap7 r a b).1, t⟩
 repo' : bk7 q = true
 ok : (ap7 r a b).2.2 = true
 none : (ap7 r a b).2.1 = []
 w : ba7 q ≤ ba7 r + 20001
section
variable {r : am7} {n f t : Str} {i j a b : Nat} {z y : Head}
theorem BH7 (ht : bd7 t = true) (h1 : At r n i z a) (hb : b < r.commits.length) (hab : a ≠ b) : (mJW r i z b t = (r, [], 5)) ∨ ((ap7 r a b).2.2 = true ∧ (ap7 r a b).2.1 ≠ [] ∧ mJW r i z b t = (r, (ap7 r a b).2.1, 3)) ∨ ∃ q m, mJW r i z b t = (q, [], 0) ∧ Fused r t i z a b q m := by
 unfold mJW
 rw [h1.at_]
 by_cases k1 : (ap7 r a b).2.2 = true
 ·rw [if_pos k1]
  by_cases k2 : (ap7 r a b).2.1 = []
  ·rw [if_pos k2]
   have hsh := (uZ7 k1).1
   have hcw := i67 (z := z) (b := (b : Int)) ht (by rw [h1.at_]; exact k1)
   rw [h1.at_] at hcw
   have hsw := CC7 (r := r) (c := ⟨[(a : Int), (b : Int)], (ap7 r a b).1, t⟩) h1.get
   have hl := dO7 h1.repo
   have ha := h1.lt
   have hup : mUp [(a : Int), (b : Int)] r.commits.length = true := by
    simp only [mUp, a07, Bool.and_true, Bool.and_eq_true, decide_eq_true_eq, beq_iff_eq]
    refine ⟨⟨⟨by omega, by omega⟩, by omega, by omega⟩, by simp, by simp; omega, ?_⟩
    simp
    omega
   by_cases k3 : (pD7 r i z ⟨[(a : Int), (b : Int)], (ap7 r a b).1, t⟩).1 = true
   ·rw [if_pos k3]
    refine .inr (.inr ?_)
    unfold pD7 at k3 hsw ⊢
    by_cases f1 : cl7 r.commits ⟨[(a : Int), (b : Int)], (ap7 r a b).1, t⟩ < 0
    ·rw [if_pos f1] at k3 hsw ⊢
     by_cases f2 : r.commits.length = 14
     ·rw [if_pos f2] at k3
      cases k3
     ·rw [if_neg f2] at hsw ⊢
      have hq := pE7 (x := ⟨[(a : Int), (b : Int)], (ap7 r a b).1, t⟩) h1.repo (by omega) hup hsh ht f1
      exact ⟨_, r.commits.length, rfl, rfl, .inr ⟨rfl, rfl, by omega⟩, by simp, ms7 (r := ⟨r.commits ++ [⟨[(a : Int), (b : Int)], (ap7 r a b).1, t⟩], r.heads⟩) (v := (r.commits.length : Int)) hq h1.get (by omega) (by simp; omega), k1, k2, by simp only at hsw ⊢; omega⟩
    ·rw [if_neg f1] at hsw ⊢
     obtain ⟨m, hm⟩ : ∃ m : Nat, cl7 r.commits ⟨[(a : Int), (b : Int)], (ap7 r a b).1, t⟩ = (m : Int) := ⟨(cl7 r.commits ⟨[(a : Int), (b : Int)], (ap7 r a b).1, t⟩).toNat, by omega⟩
     have hg := yV7 hm
     rw [hm] at hsw ⊢
     exact ⟨_, m, rfl, rfl, .inl ⟨rfl, eD7 hg⟩, hg, ms7 (v := (m : Int)) h1.repo h1.get (by omega) (by have := eD7 hg; omega), k1, k2, by simp only at hsw ⊢; omega⟩
   ·rw [if_neg k3]
    exact .inl rfl
  ·rw [if_neg k2]
   exact .inr (.inl ⟨k1, k2, rfl⟩)
 ·rw [if_neg k1]
  exact .inl rfl
end
section
variable {r q : am7} {n f t : Str} {i j a b m : Nat} {z y : Head}
theorem Fused.anc (h : Fused r t i z a b q m) (hr : bk7 r = true) (ha : a < r.commits.length) (hb : b < r.commits.length) {u : Nat} : Anc q.commits m u ↔ u = m ∨ Anc r.commits a u ∨ Anc r.commits b u := by
 have hp : ∀ {c u : Nat}, c < r.commits.length → (Anc q.commits c u ↔ Anc r.commits c u) := fun {c u} hc => by
  rcases h.comm with ⟨e, _⟩ | ⟨e, _, _⟩
  ·rw [e]
  ·rw [e]
   exact yW7 (cV7 hr) hc
 constructor
 ·intro h1
  rcases h1.head' with h2 | ⟨x, v, h2, h3, h4⟩
  ·exact .inl h2.symm
  ·rw [h.get] at h2
   cases h2
   simp only [List.mem_cons, List.not_mem_nil, or_false] at h3
   rcases h3 with rfl | rfl
   ·exact .inr (.inl ((hp ha).1 (by simpa using h4)))
   ·exact .inr (.inr ((hp hb).1 (by simpa using h4)))
 ·have up1 : ∀ v : Nat, (v : Int) ∈ [(a : Int), (b : Int)] → Anc q.commits m v := fun v hv => by
   have h1 : Anc q.commits m ((v : Int).toNat) := .up (.refl m) h.get hv
   simpa using h1
  rintro (rfl | h1 | h1)
  ·exact .refl _
  ·exact (up1 a (by simp)).trans ((hp ha).2 h1)
  ·exact (up1 b (by simp)).trans ((hp hb).2 h1)
theorem Fused.take (h : Fused r t i z a b q m) : q.commits.take r.commits.length = r.commits := by
 rcases h.comm with ⟨e, _⟩ | ⟨e, _, _⟩
 ·rw [e, List.take_length]
 ·rw [e, List.take_left]
theorem Fused.len (h : Fused r t i z a b q m) : r.commits.length ≤ q.commits.length ∧ q.commits.length ≤ r.commits.length + 1 ∧ m < q.commits.length := by
 refine ⟨?_, ?_, eD7 h.get⟩
 ·rcases h.comm with ⟨e, _⟩ | ⟨e, _, _⟩ <;> rw [e] <;> simp
 ·rcases h.comm with ⟨e, _⟩ | ⟨e, _, _⟩ <;> rw [e] <;> simp
theorem CD7 {v : Nat} (h1 : At r n i z a) {q : am7} (hq : bk7 q = true) (he : q.heads = r.heads.set i ⟨z.name, (v : Int)⟩) (hv : v < q.commits.length) : At q n i ⟨z.name, (v : Int)⟩ v where
 repo := hq
 hd := by rw [he, f67 (iW7 h1.get)]; exact h1.hd
 get := by rw [he, List.getElem?_set_self (eD7 h1.get)]
 name := h1.name
 at_ := rfl
 lt := hv
theorem zl7 {v : Nat} (h1 : At r n i z a) (h2 : At r f j y b) (hij : i ≠ j) {q : am7} (hq : bk7 q = true) (he : q.heads = r.heads.set i ⟨z.name, (v : Int)⟩) (hb : b < q.commits.length) : At q f j y b where
 repo := hq
 hd := by rw [he, f67 (iW7 h1.get)]; exact h2.hd
 get := by rw [he, List.getElem?_set_ne hij]; exact h2.get
 name := h2.name
 at_ := h2.at_
 lt := hb
theorem Qt7 (h1 : At r n i z a) (h2 : At r f j y b) (h : a ≠ b) : i ≠ j := fun e => by
 subst e
 have := h1.get.symm.trans h2.get
 cases this
 have := h1.at_.symm.trans h2.at_
 omega
end
open Classical in
theorem BI7 {r : am7} {n f t : Str} : (mJH r n f t = (⟨[], []⟩, [], 6)) ∨ (bk7 r = true ∧ mJH r n f t = (r, [], 4)) ∨ ∃ i j a b z y, bd7 t = true ∧ At r n i z a ∧ At r f j y b ∧
  ((Anc r.commits a b ∧ mJH r n f t = (r, [], 1)) ∨ (¬ Anc r.commits a b ∧ Anc r.commits b a ∧ mJH r n f t = (⟨r.commits, r.heads.set i ⟨z.name, (b : Int)⟩⟩, [], 2)) ∨
   (¬ Anc r.commits a b ∧ ¬ Anc r.commits b a ∧ (mJH r n f t = (r, [], 5) ∨ ((ap7 r a b).2.1 ≠ [] ∧ mJH r n f t = (r, (ap7 r a b).2.1, 3)) ∨ ∃ q m, mJH r n f t = (q, [], 0) ∧ Fused r t i z a b q m))) := by
 by_cases h : (bk7 r && bd7 t) = true
 ·simp only [Bool.and_eq_true] at h
  rcases At.of h.1 n with h1 | ⟨i, z, a, h1⟩
  ·exact .inr (.inl ⟨h.1, zk7 h.1 h.2 (.inl h1)⟩)
  ·rcases At.of h.1 f with h2 | ⟨j, y, b, h2⟩
   ·exact .inr (.inl ⟨h.1, zk7 h.1 h.2 (.inr h2)⟩)
   ·refine .inr (.inr ⟨i, j, a, b, z, y, h.2, h1, h2, ?_⟩)
    rw [Mw7 h.2 h1 h2]
    by_cases a1 : Anc r.commits a b
    ·rw [if_pos a1]
     exact .inl ⟨a1, rfl⟩
    ·rw [if_neg a1]
     by_cases a2 : Anc r.commits b a
     ·rw [if_pos a2]
      exact .inr (.inl ⟨a1, a2, rfl⟩)
     ·rw [if_neg a2]
      refine .inr (.inr ⟨a1, a2, ?_⟩)
      rcases BH7 h.2 h1 h2.lt (fun e => a1 (e ▸ .refl a)) with e | ⟨_, e1, e2⟩ | ⟨q, m, e, hf⟩
      ·exact .inl e
      ·exact .inr (.inl ⟨e1, e2⟩)
      ·exact .inr (.inr ⟨q, m, e, hf⟩)
 ·exact .inl (FJ7 h)
end Go.Proofs.AM
