/- Lemmas of the proof (UFP), on an abstract machine. Conditions: none. -/
import Derived.Test.YtnnfdbdheoajgaaGreatUFD
import Derived.Test.YtnnfdbdheoajgaaGreatM2
import Derived.Test.YtnnfdbdheoajgaaGreatHT
import Derived.Test.YtnnfdbdheoajgaaGreatHN
import Derived.Test.YtnnfdbdheoajgaaGreatHV
set_option linter.unusedVariables false
set_option linter.unusedSimpArgs false
set_option maxRecDepth 10000
namespace Go.Proofs.AM
theorem eE7 {s : Str} (h : s.size ≤ 1048576) : f77 s = some (a87 s) := by
 unfold f77 a87
 rw [if_pos (ab7 h), in7 (gl := fl7) (p := fun (b : UInt8) _ => decide (97 ≤ b.toNat) && decide (b.toNat ≤ 122)) (xs := s.data.toList) (fun _ => rfl) (fun x l k _ => ?_) s.data.toList 0 rfl]
 ·have e1 : ((s.size : Int) ≥ 1) ↔ 1 ≤ s.size := by omega
  have e2 : ((s.size : Int) ≤ 6) ↔ s.size ≤ 6 := by omega
  cases aZ7 (fun (b : UInt8) _ => decide (97 ≤ b.toNat) && decide (b.toNat ≤ 122)) s.data.toList 0
  ·rfl
  ·by_cases h1 : 1 ≤ s.size <;> simp [e1, e2, h1]
 ·have e1 : ((x.toNat : Int) < 97) ↔ ¬ 97 ≤ x.toNat := by omega
  have e2 : ((x.toNat : Int) > 122) ↔ ¬ x.toNat ≤ 122 := by omega
  simp only [fl7, e1, e2]
  by_cases h1 : 97 ≤ x.toNat <;> by_cases h2 : x.toNat ≤ 122 <;> simp [h1, h2]
theorem eF7 {s : Str} (h : s.size ≤ 1048576) : ga7 s = some (a87 s) := by
 unfold ga7 a87
 rw [if_pos (ab7 h), in7 (gl := fz7) (p := fun (b : UInt8) _ => decide (97 ≤ b.toNat) && decide (b.toNat ≤ 122)) (xs := s.data.toList) (fun _ => rfl) (fun x l k _ => ?_) s.data.toList 0 rfl]
 ·have e1 : ((s.size : Int) ≥ 1) ↔ 1 ≤ s.size := by omega
  have e2 : ((s.size : Int) ≤ 6) ↔ s.size ≤ 6 := by omega
  cases aZ7 (fun (b : UInt8) _ => decide (97 ≤ b.toNat) && decide (b.toNat ≤ 122)) s.data.toList 0
  ·rfl
  ·by_cases h1 : 1 ≤ s.size <;> simp [eq7, e1, e2, h1]
 ·have e1 : ((x.toNat : Int) < 97) ↔ ¬ 97 ≤ x.toNat := by omega
  have e2 : ((x.toNat : Int) > 122) ↔ ¬ x.toNat ≤ 122 := by omega
  simp only [fz7, e1, e2]
  by_cases h1 : 97 ≤ x.toNat <;> by_cases h2 : x.toNat ≤ 122 <;> simp [h1, h2]
theorem ET7 (n : Int) : nv7 n = some (lC7 n) := by
 unfold nv7 lC7
 by_cases h : -1000 ≤ n <;> simp [h]
theorem eG7 (n a b : Int) : eq7 n a b = some (decide (a ≤ n) && decide (n ≤ b)) := by
 unfold eq7
 by_cases h : a ≤ n <;> simp [h]
theorem EU7 {xs : List Pt} (h : xs.length ≤ 1048576) : qk7 xs = some (Dx7 xs && decide (xs.length ≤ 6)) := by
 unfold qk7 Dx7
 rw [if_pos (ab7 h), in7 (gl := eg7 xs) (p := fun p k => lC7 p.x && (lC7 p.y && (decide (k = 0) || decide (xs[k - 1]? ≠ some p)))) (xs := xs) (fun _ => rfl) (fun x l k hd => ?_) xs 0 rfl]
 ·rw [show decide ((xs.length : Int) ≤ 6) = decide (xs.length ≤ 6) from GT7]
  exact Mp7
 ·simp only [eg7, ET7, Option.bind_some, ptb, Dw7]
  rcases Nat.eq_zero_or_pos k with rfl | hk
  ·cases lC7 x.x <;> cases lC7 x.y <;> simp
  ·obtain ⟨y, hy⟩ := e07 hd hk
   have hl := cj7 hd
   have hw := cd7 hk (by omega)
   rw [hw, al7, hy]
   have hk' : ¬ k = 0 := by omega
   by_cases e : x = y
   ·subst e
    cases lC7 x.x <;> cases lC7 x.y <;> simp [hk, hk', hy]
   ·have e' : ¬ y = x := fun h => e h.symm
    cases lC7 x.x <;> cases lC7 x.y <;> simp [hk, hk', hy, e, e']
theorem l77 {x : aS7} (h : x.pts.length ≤ 1048576) : j27 x = some (f67 x) := by
 unfold j27 f67
 rw [EU7 h]
 simp only [Option.bind_some, ptb]
 have c1 : ((x.pts.length : Int) == 1) = decide (x.pts.length = 1) := by
  by_cases e : x.pts.length = 1 <;> simp [e] <;> omega
 have c2 : ((x.pts.length : Int) ≥ 2) ↔ 2 ≤ x.pts.length := by omega
 have c3 : ((x.pts.length : Int) ≥ 3) ↔ 3 ≤ x.pts.length := by omega
 cases Dx7 x.pts
 ·simp
 ·by_cases hl : x.pts.length ≤ 6
  ·by_cases k1 : x.kind = 1
   ·simp [k1, hl, c1]
   ·by_cases k2 : x.kind = 2
    ·simp [k2, hl, c2]
    ·by_cases k3 : x.kind = 3
     ·by_cases h3 : 3 ≤ x.pts.length
      ·obtain ⟨p, hp⟩ : ∃ p, x.pts[0]? = some p := ⟨x.pts[0], List.getElem?_eq_getElem (by omega)⟩
       obtain ⟨q, hq⟩ : ∃ p, x.pts[x.pts.length - 1]? = some p := ⟨x.pts[x.pts.length - 1], List.getElem?_eq_getElem (by omega)⟩
       have hw := cd7 (k := x.pts.length) (by omega) (by omega)
       have e0 : idx x.pts 0 = some p := by rw [← hp]; exact al7 (k := 0)
       have e1 : idx x.pts ((x.pts.length - 1 : Nat) : Int) = some q := by rw [← hq]; exact al7
       rw [hw]
       simp [k3, hl, c3, h3, e0, e1, hp, hq]
      ·simp [k3, hl, c3, h3]
     ·simp [k1, k2, k3, hl]
  ·simp [hl]
theorem LX7 (p : Pt) : qz7 p = some (lC7 p.x && lC7 p.y) := by
 unfold qz7 lC7
 rw [eG7, eG7]
 simp only [Option.bind_some]
 cases (decide (-1000 ≤ p.x) && decide (p.x ≤ 1000)) <;> simp
theorem yd7 {x : aS7} (h : x.pts.length ≤ 1048576) : nA7 x = some (f67 x) := by
 unfold nA7 f67
 have c1 : ((x.pts.length : Int) == 1) = decide (x.pts.length = 1) := by
  by_cases e : x.pts.length = 1 <;> simp [e] <;> omega
 have c2 : ((2 : Int) ≤ (x.pts.length : Int)) ↔ 2 ≤ x.pts.length := by omega
 have c3 : ((3 : Int) ≤ (x.pts.length : Int)) ↔ 3 ≤ x.pts.length := by omega
 have c6 : ((x.pts.length : Int) ≤ 6) ↔ x.pts.length ≤ 6 := by omega
 rw [if_pos (ab7 h), in7 (gl := er7 x) (p := fun p k => lC7 p.x && (lC7 p.y && (decide (k = 0) || decide (x.pts[k - 1]? ≠ some p)))) (xs := x.pts) (fun _ => rfl) (fun y l k hd => ?_) x.pts 0 rfl]
 ·show _ = some (Dx7 x.pts && _)
  have hm : aZ7 (fun (p : Pt) k => lC7 p.x && (lC7 p.y && (decide (k = 0) || decide (x.pts[k - 1]? ≠ some p)))) x.pts 0 = Dx7 x.pts := rfl
  rw [hm]
  cases Dx7 x.pts
  ·rfl
  ·simp only [if_true, Option.bind_some, ptb, eG7]
   by_cases k1 : x.kind = 1
   ·by_cases e : x.pts.length = 1 <;> simp [k1, c1, e]
   ·by_cases k2 : x.kind = 2
    ·by_cases e : x.pts.length ≤ 6 <;> simp [k2, c2, c6, e]
    ·by_cases k3 : x.kind = 3
     ·by_cases h3 : 3 ≤ x.pts.length
      ·obtain ⟨p, hp⟩ : ∃ p, x.pts[0]? = some p := ⟨x.pts[0], List.getElem?_eq_getElem (by omega)⟩
       obtain ⟨q, hq⟩ : ∃ p, x.pts[x.pts.length - 1]? = some p := ⟨x.pts[x.pts.length - 1], List.getElem?_eq_getElem (by omega)⟩
       have hw := cd7 (k := x.pts.length) (by omega) (by omega)
       have e0 : idx x.pts 0 = some p := by rw [← hp]; exact al7 (k := 0)
       have e1 : idx x.pts ((x.pts.length - 1 : Nat) : Int) = some q := by rw [← hq]; exact al7
       rw [hw]
       by_cases e : x.pts.length ≤ 6 <;> simp [k3, c3, c6, h3, e0, e1, hp, hq, e]
      ·simp [k3, c3, c6, h3]
     ·simp [k1, k2, k3]
 ·simp only [er7, LX7, Option.bind_some, ptb, Dw7]
  rcases Nat.eq_zero_or_pos k with rfl | hk
  ·cases lC7 y.x <;> cases lC7 y.y <;> simp
  ·obtain ⟨z, hz⟩ := e07 hd hk
   have hl := cj7 hd
   have hw := cd7 hk (by omega)
   rw [hw, al7, hz]
   have hk' : ¬ k = 0 := by omega
   by_cases e : z = y <;> cases lC7 y.x <;> cases lC7 y.y <;> simp [hk, hk', hz, e]
theorem AL7 {ts : List Tag} (h : wL u07 ts ≤ 1048576) : qm7 ts = some (si7 ts && decide (ts.length ≤ 4)) := by
 have hlen : ts.length ≤ 1048576 := by unfold wL at h; omega
 unfold qm7 si7
 rw [if_pos (ab7 hlen), in7 (gl := eh7 ts) (p := fun t k => a87 t.key && (a87 t.val && (decide (k = 0) || io7 Tag.key ts t k))) (xs := ts) (fun _ => rfl) (fun x l k hd => ?_) ts 0 rfl]
 ·rw [show decide ((ts.length : Int) ≤ 4) = decide (ts.length ≤ 4) from GT7]
  exact Mp7
 ·have hx : x ∈ ts := List.mem_of_getElem? (cx7 hd)
  have hs := bA7 (w := u07) hx
  unfold wL at h
  have hk1 : x.key.size ≤ 1048576 := by have e0 : u07 x = x.key.size + (x.val.size + 0) := rfl; omega
  have hk2 : x.val.size ≤ 1048576 := by have e0 : u07 x = x.key.size + (x.val.size + 0) := rfl; omega
  simp only [eh7, eE7 hk1, eE7 hk2, Option.bind_some, Dw7, sh7]
  rcases Nat.eq_zero_or_pos k with rfl | hk
  ·cases a87 x.key <;> cases a87 x.val <;> simp
  ·obtain ⟨z, hz⟩ := e07 hd hk
   have hl := cj7 hd
   have hw := cd7 hk (by omega)
   rw [hw, al7, hz]
   have hk' : ¬ k = 0 := by omega
   cases e : slt z.key x.key <;> cases a87 x.key <;> cases a87 x.val <;> simp [hk, hk', hz, e, io7]
theorem AM7 {f : Feat} (h : aU7 f ≤ 1048576) : nw7 f = some (cp7 f) := by
 unfold aU7 im7 at h
 have h1 : f.id.size ≤ 1048576 := by omega
 have h2 : f.shape.pts.length ≤ 1048576 := by unfold wL at h; omega
 unfold nw7 cp7
 rw [eE7 h1, l77 h2, AL7 (by omega)]
 simp only [Option.bind_some]
 cases a87 f.id <;> cases f67 f.shape <;> simp
theorem t67 {f : Feat} (h : aU7 f ≤ 1048576) : hl7 f = some (cp7 f) := by
 unfold aU7 im7 at h
 have h1 : f.id.size ≤ 1048576 := by omega
 have h2 : f.shape.pts.length ≤ 1048576 := by unfold wL at h; omega
 have h3 : wL u07 f.tags ≤ 1048576 := by omega
 have hlen : f.tags.length ≤ 1048576 := by unfold wL at h3; omega
 unfold hl7 cp7
 rw [if_pos (ab7 hlen), in7 (gl := es7 f) (p := fun t k => a87 t.key && (a87 t.val && (decide (k = 0) || io7 Tag.key f.tags t k))) (xs := f.tags) (fun _ => rfl) (fun x l k hd => ?_) f.tags 0 rfl]
 ·have hm : aZ7 (fun (t : Tag) k => a87 t.key && (a87 t.val && (decide (k = 0) || io7 Tag.key f.tags t k))) f.tags 0 = si7 f.tags := rfl
  rw [hm, eF7 h1, yd7 h2]
  rw [show decide ((f.tags.length : Int) ≤ 4) = decide (f.tags.length ≤ 4) from GT7]
  cases si7 f.tags <;> cases a87 f.id <;> cases f67 f.shape <;> simp
 ·have hx : x ∈ f.tags := List.mem_of_getElem? (cx7 hd)
  have hs := bA7 (w := u07) hx
  unfold wL at h3
  have hk1 : x.key.size ≤ 1048576 := by have e0 : u07 x = x.key.size + (x.val.size + 0) := rfl; omega
  have hk2 : x.val.size ≤ 1048576 := by have e0 : u07 x = x.key.size + (x.val.size + 0) := rfl; omega
  simp only [es7, eF7 hk1, eF7 hk2, Option.bind_some, Dw7]
  rcases Nat.eq_zero_or_pos k with rfl | hk
  ·cases a87 x.key <;> cases a87 x.val <;> simp
  ·obtain ⟨z, hz⟩ := e07 hd hk
   have hl := cj7 hd
   have hw := cd7 hk (by omega)
   rw [hw, al7, hz]
   have hk' : ¬ k = 0 := by omega
   cases e : slt z.key x.key <;> cases a87 x.key <;> cases a87 x.val <;> simp [hk, hk', hz, e, io7]
theorem e57 {fs : List Feat} (h : wL aU7 fs ≤ 1048576) : hj7 fs = some (aQ7 fs) := by
 have hlen : fs.length ≤ 1048576 := by unfold wL at h; omega
 unfold hj7 aQ7
 rw [if_pos (ab7 hlen), in7 (gl := ei7 fs) (p := fun f k => cp7 f && (decide (k = 0) || io7 Feat.id fs f k)) (xs := fs) (fun _ => rfl) (fun x l k hd => ?_) fs 0 rfl]
 ·rw [show decide ((fs.length : Int) ≤ 8) = decide (fs.length ≤ 8) from GT7]
  exact Mp7
 ·have hx : x ∈ fs := List.mem_of_getElem? (cx7 hd)
  have hs := bA7 (w := aU7) hx
  unfold wL at h
  simp only [ei7, AM7 (f := x) (by omega), Option.bind_some, Dw7, sh7]
  rcases Nat.eq_zero_or_pos k with rfl | hk
  ·cases cp7 x <;> simp
  ·obtain ⟨z, hz⟩ := e07 hd hk
   have hl := cj7 hd
   have hw := cd7 hk (by omega)
   rw [hw, al7, hz]
   have hk' : ¬ k = 0 := by omega
   cases e : slt z.id x.id <;> cases cp7 x <;> simp [hk, hk', hz, e, io7]
theorem dv7 {fs : List Feat} (h : wL aU7 fs ≤ 1048576) : gb7 fs = some (aQ7 fs) := by
 have hlen : fs.length ≤ 1048576 := by unfold wL at h; omega
 unfold gb7 aQ7
 rw [if_pos (ab7 hlen), in7 (gl := et7 fs) (p := fun f k => cp7 f && (decide (k = 0) || io7 Feat.id fs f k)) (xs := fs) (fun _ => rfl) (fun x l k hd => ?_) fs 0 rfl]
 ·rw [show decide ((fs.length : Int) ≤ 8) = decide (fs.length ≤ 8) from GT7]
  exact Mp7
 ·have hx : x ∈ fs := List.mem_of_getElem? (cx7 hd)
  have hs := bA7 (w := aU7) hx
  unfold wL at h
  simp only [et7, t67 (f := x) (by omega), Option.bind_some, Dw7, sh7]
  rcases Nat.eq_zero_or_pos k with rfl | hk
  ·cases cp7 x <;> simp
  ·obtain ⟨z, hz⟩ := e07 hd hk
   have hl := cj7 hd
   have hw := cd7 hk (by omega)
   rw [hw, al7, hz]
   have hk' : ¬ k = 0 := by omega
   cases e : slt z.id x.id <;> cases cp7 x <;> simp [hk, hk', hz, e, io7]
theorem AN7 {a b : List Pt} (h : a.length ≤ 1048576) : lG7 a b = some (decide (a = b)) := ee7 (gl := fm7) (ok := fun _ => True) (fun _ _ => rfl) (fun a x l k y _ hy => by
 simp only [fm7, al7, hy, Option.bind_some, ptb]
 by_cases e : x = y <;> simp [e]) (fun _ _ => rfl) h (fun _ _ => trivial)
theorem LY7 {a b : List Pt} (h : a.length ≤ 1048576) : hn7 a b = some (decide (a = b)) := ee7 (gl := fA7) (ok := fun _ => True) (fun _ _ => rfl) (fun a x l k y _ hy => by
 simp only [fA7, al7, hy, Option.bind_some, ptb]
 by_cases e : x = y <;> simp [e]) (fun _ _ => rfl) h (fun _ _ => trivial)
theorem AO7 {a b : List Tag} (h : a.length ≤ 1048576) : tF7 a b = some (decide (a = b)) := ee7 (gl := fn7) (ok := fun _ => True) (fun _ _ => rfl) (fun a x l k y _ hy => by
 simp only [fn7, al7, hy, Option.bind_some, QC7]
 by_cases e : x = y <;> simp [e]) (fun _ _ => rfl) h (fun _ _ => trivial)
theorem EV7 {a b : List Tag} (h : a.length ≤ 1048576) : tO7 a b = some (decide (a = b)) := ee7 (gl := fB7) (ok := fun _ => True) (fun _ _ => rfl) (fun a x l k y _ hy => by
 simp only [fB7, al7, hy, Option.bind_some, QC7]
 by_cases e : x = y <;> simp [e]) (fun _ _ => rfl) h (fun _ _ => trivial)
theorem AP7 {a b : List Int} (h : a.length ≤ 1048576) : tG7 a b = some (decide (a = b)) := ee7 (gl := fo7) (ok := fun _ => True) (fun _ _ => rfl) (fun a x l k y _ hy => by
 simp only [fo7, al7, hy, Option.bind_some]
 by_cases e : x = y <;> simp [e]) (fun _ _ => rfl) h (fun _ _ => trivial)
theorem EW7 {a b : List Int} (h : a.length ≤ 1048576) : tQ7 a b = some (decide (a = b)) := ee7 (gl := fD7) (ok := fun _ => True) (fun _ _ => rfl) (fun a x l k y _ hy => by
 simp only [fD7, al7, hy, Option.bind_some]
 by_cases e : x = y <;> simp [e]) (fun _ _ => rfl) h (fun _ _ => trivial)
theorem sD7 {a b : aS7} (h : a.pts.length ≤ 1048576) : j37 a b = some (decide (a = b)) := by
 unfold j37
 rw [AN7 h]
 obtain ⟨k, p⟩ := a; obtain ⟨k2, p2⟩ := b
 by_cases h1 : k = k2 <;> by_cases h2 : p = p2 <;> simp [h1, h2]
theorem g87 {a b : Feat} (h : aU7 a ≤ 1048576) : f87 a b = some (decide (a = b)) := by
 unfold aU7 im7 wL at h
 unfold f87
 rw [sD7 (by omega), AO7 (by omega), dw7]
 obtain ⟨i, s, t⟩ := a; obtain ⟨i2, s2, t2⟩ := b
 by_cases h1 : i = i2 <;> by_cases h2 : s = s2 <;> by_cases h3 : t = t2 <;> simp [h1, h2, h3]
theorem sE7 {a b : aS7} (h : a.pts.length ≤ 1048576) : j97 a b = some (decide (a = b)) := by
 unfold j97
 rw [LY7 h]
 obtain ⟨k, p⟩ := a; obtain ⟨k2, p2⟩ := b
 by_cases h1 : k = k2 <;> by_cases h2 : p = p2 <;> simp [h1, h2]
theorem nQ7 {a b : Feat} (h : aU7 a ≤ 1048576) : nB7 a b = some (decide (a = b)) := by
 unfold aU7 im7 wL at h
 unfold nB7
 rw [sE7 (by omega), EV7 (by omega), dw7]
 obtain ⟨i, s, t⟩ := a; obtain ⟨i2, s2, t2⟩ := b
 by_cases h1 : i = i2 <;> by_cases h2 : s = s2 <;> by_cases h3 : t = t2 <;> simp [h1, h2, h3]
theorem sF7 {a b : List Feat} (h : wL aU7 a ≤ 1048576) : tH7 a b = some (decide (a = b)) := ee7 (gl := fp7) (ok := fun x => aU7 x ≤ 1048576) (fun _ _ => rfl) (fun a x l k y hx hy => by
 simp only [fp7, al7, hy, Option.bind_some, g87 hx]
 by_cases e : x = y <;> simp [e]) (fun _ _ => rfl) (by unfold wL at h; omega) (fun x hx => by have := bA7 (w := aU7) hx; unfold wL at h; omega)
theorem AQ7 {a b : List Feat} (h : wL aU7 a ≤ 1048576) : tP7 a b = some (decide (a = b)) := ee7 (gl := fC7) (ok := fun x => aU7 x ≤ 1048576) (fun _ _ => rfl) (fun a x l k y hx hy => by
 simp only [fC7, al7, hy, Option.bind_some, nQ7 hx]
 by_cases e : x = y <;> simp [e]) (fun _ _ => rfl) (by unfold wL at h; omega) (fun x hx => by have := bA7 (w := aU7) hx; unfold wL at h; omega)
theorem l87 {a b : List Feat} (h : wL aU7 a ≤ 1048576) : nC7 a b = some (decide (a = b)) := by
 unfold nC7
 rw [AQ7 h]
 rfl
theorem rl7 {a b : Commit} (h : ax7 a ≤ 1048576) : qn7 a b = some (decide (a = b)) := by
 unfold ax7 at h
 unfold qn7
 rw [AP7 (by unfold wL at h; omega), sF7 (by omega), dw7]
 obtain ⟨i, s, t⟩ := a; obtain ⟨i2, s2, t2⟩ := b
 by_cases h1 : i = i2 <;> by_cases h2 : s = s2 <;> by_cases h3 : t = t2 <;> simp [h1, h2, h3]
theorem rm7 {a b : Commit} (h : ax7 a ≤ 1048576) : qA7 a b = some (decide (a = b)) := by
 unfold ax7 at h
 unfold qA7
 rw [EW7 (by unfold wL at h; omega), l87 (by omega), dw7]
 obtain ⟨i, s, t⟩ := a; obtain ⟨i2, s2, t2⟩ := b
 by_cases h1 : i = i2 <;> by_cases h2 : s = s2 <;> by_cases h3 : t = t2 <;> simp [h1, h2, h3]
theorem kL7 {r : an7} {c : Commit} (h : wL ax7 r.commits ≤ 1048576) : lI7 r c = some (bk7 r.commits c) := by
 unfold lI7 bk7
 rw [if_pos (ab7 (by unfold wL at h; omega))]
 exact ow7 (gl := fr7 c) (ok := fun x => ax7 x ≤ 1048576) (fun _ => rfl) (fun x l k hx => by simp only [fr7, rl7 hx, Option.bind_some]) _ 0 fun x hx => by have := bA7 (w := ax7) hx; unfold wL at h; omega
theorem fS7 {r : an7} {c : Commit} (h : wL ax7 r.commits ≤ 1048576) : nD7 r c = some (bk7 r.commits c) := by
 have key : qD7 r.commits c = some (bk7 r.commits c) := by
  unfold qD7 bk7
  rw [if_pos (ab7 (by unfold wL at h; omega))]
  exact ow7 (gl := fF7 c) (ok := fun x => ax7 x ≤ 1048576) (fun _ => rfl) (fun x l k hx => by simp only [fF7, tR7, rm7 hx, Option.bind_some]) _ 0 fun x hx => by have := bA7 (w := ax7) hx; unfold wL at h; omega
 unfold nD7
 rw [key]
 rfl
theorem fT7 {r : an7} {n : Str} (h : r.heads.length ≤ 1048576) : gA7 r n = some (aM7 r.heads n) := by
 unfold gA7 aM7
 rw [if_pos (ab7 h)]
 exact ow7 (gl := fs7 n) (ok := fun _ => True) (fun _ => rfl) (fun x l k _ => by simp only [fs7, dw7]) _ 0 fun _ _ => trivial
theorem cG7 {r : an7} {n : Str} (h : r.heads.length ≤ 1048576) : gB7 r n = some (aM7 r.heads n) := by
 have key : qE7 r.heads n = some (aM7 r.heads n) := by
  unfold qE7 aM7
  rw [if_pos (ab7 h)]
  exact ow7 (gl := fG7 n) (ok := fun _ => True) (fun _ => rfl) (fun x l k _ => by simp only [fG7, tS7, dw7, Option.bind_some]) _ 0 fun _ _ => trivial
 unfold gB7
 rw [key]
 rfl
theorem LZ7 {up : List Int} {k : Nat} (h : up.length ≤ 1048576) : qo7 up (k : Int) = some (mUp up k) := by
 unfold qo7 mUp
 rw [if_pos (ab7 h), in7 (gl := fq7 (k : Int)) (p := fun (x : Int) _ => decide (0 ≤ x) && decide (x < (k : Int))) (xs := up) (fun _ => rfl) (fun x l j _ => ?_) up 0 rfl]
 ·generalize aZ7 (fun (x : Int) _ => decide (0 ≤ x) && decide (x < (k : Int))) up 0 = A
  cases A
  ·rfl
  ·have e1 : decide ((k : Int) > 0) = decide (0 < k) := Dw7
   match up with
   | [] => cases e : decide (0 < k) <;> simp [e1, e]
   | [a] => cases e : decide (0 < k) <;> simp [e1, e]
   | [a, b] =>
    have i0 : idx [a, b] 0 = some a := rfl
    have i1 : idx [a, b] 1 = some b := rfl
    by_cases e2 : a = b
    ·subst e2
     cases e : decide (0 < k) <;> simp [e1, e, i0, i1]
    ·cases e : decide (0 < k) <;> simp [e1, e, i0, i1, e2]
   | a :: b :: c :: l =>
    have e2 : ¬ ((l.length : Int) + 1 + 1 + 1 ≤ 2) := by omega
    simp [e2]
 ·have e1 : (x ≥ (k : Int)) ↔ ¬ x < (k : Int) := by omega
  have e2 : (x < 0) ↔ ¬ 0 ≤ x := by omega
  simp only [fq7, e1, e2]
  by_cases h1 : 0 ≤ x <;> by_cases h2 : x < (k : Int) <;> simp [h1, h2]
theorem kM7 {r : an7} (h : be7 r ≤ 1048576) : j57 r = some (ba7 r) := by
 unfold be7 at h
 have hc : wL ax7 r.commits ≤ 1048576 := by omega
 have hh : wL gl7 r.heads ≤ 1048576 := by omega
 have hcl : r.commits.length ≤ 1048576 := by unfold wL at hc; omega
 have hhl : r.heads.length ≤ 1048576 := by unfold wL at hh; omega
 have c1 : ((r.commits.length : Int) < 1) ↔ ¬ 1 ≤ r.commits.length := by omega
 have c2 : ((r.commits.length : Int) > 14) ↔ ¬ r.commits.length ≤ 14 := by omega
 have c3 : ((r.heads.length : Int) < 1) ↔ ¬ 1 ≤ r.heads.length := by omega
 have c4 : ((r.heads.length : Int) > 4) ↔ ¬ r.heads.length ≤ 4 := by omega
 have k1 : ej7 r r.commits 0 = some (if cy7 r.commits = true then .inr () else .inl false) := by
  refine in7 (gl := ej7 r) (p := fun c k => mUp c.up k && (aQ7 c.sheet && (a87 c.note && decide (bk7 r.commits c = (k : Int))))) (xs := r.commits) (fun _ => rfl) (fun x l k hd => ?_) r.commits 0 rfl
  have hx : x ∈ r.commits := List.mem_of_getElem? (cx7 hd)
  have hs := bA7 (w := ax7) hx
  have e0 : ax7 x = wL w0 x.up + (wL aU7 x.sheet + (x.note.size + 0)) := rfl
  have hs' : ax7 x ≤ 1048576 := by unfold wL at hc; omega
  have hu : x.up.length ≤ 1048576 := by have : wL w0 x.up = x.up.length + gk7 w0 x.up := rfl; omega
  simp only [ej7, LZ7 hu, e57 (fs := x.sheet) (by omega), eE7 (s := x.note) (by omega), kL7 hc, Option.bind_some]
  by_cases e : bk7 r.commits x = (k : Int) <;> cases mUp x.up k <;> cases aQ7 x.sheet <;> cases a87 x.note <;> simp [e]
 have k2 : ek7 r r.heads 0 = some (if lD7 r.commits.length r.heads = true then .inr () else .inl false) := by
  refine in7 (gl := ek7 r) (p := fun h k => a87 h.name && (decide (aM7 r.heads h.name = (k : Int)) && (decide (0 ≤ h.at_) && decide (h.at_ < (r.commits.length : Int))))) (xs := r.heads) (fun _ => rfl) (fun x l k hd => ?_) r.heads 0 rfl
  have hx : x ∈ r.heads := List.mem_of_getElem? (cx7 hd)
  have hs := bA7 (w := gl7) hx
  have e0 : gl7 x = x.name.size + 0 := rfl
  have hs' : x.name.size ≤ 1048576 := by unfold wL at hh; omega
  have d1 : (x.at_ < 0) ↔ ¬ 0 ≤ x.at_ := by omega
  have d2 : (x.at_ ≥ (r.commits.length : Int)) ↔ ¬ x.at_ < (r.commits.length : Int) := by omega
  simp only [ek7, eE7 hs', fT7 hhl, Option.bind_some, d1, d2]
  by_cases e : aM7 r.heads x.name = (k : Int) <;> by_cases e1 : 0 ≤ x.at_ <;> by_cases e2 : x.at_ < (r.commits.length : Int) <;> cases a87 x.name <;> simp [e, e1, e2]
 unfold j57 ba7
 rw [k1, k2, if_pos (ab7 hcl), if_pos (ab7 hhl)]
 simp only [c1, c2, c3, c4]
 by_cases h1 : 1 ≤ r.commits.length <;> by_cases h2 : r.commits.length ≤ 14 <;> by_cases h3 : 1 ≤ r.heads.length <;> by_cases h4 : r.heads.length ≤ 4 <;> cases cy7 r.commits <;> cases lD7 r.commits.length r.heads <;> simp [h1, h2, h3, h4]
theorem l97 {r : an7} {k : Int} (h : r.commits.length ≤ 1048576) : lN7 r k = some (decide (0 ≤ k) && decide (k < (r.commits.length : Int))) := by
 unfold lN7
 rw [aP7 (by omega) (by omega), eG7]
 have e : (k ≤ (r.commits.length : Int) - 1) ↔ k < (r.commits.length : Int) := by omega
 simp [e]
theorem ma7 (x : Int) : lM7 [] x = some false := rfl
theorem sG7 (a x : Int) : lM7 [a] x = some (decide (x = a)) := by
 have hf : aI7 1 = true := ab7 (by omega)
 by_cases e : x = a
 ·subst e
  simp [lM7, qB7, hf, fE7]
 ·simp [lM7, qB7, hf, fE7, e]
theorem P17 {c : Commit} {k : Nat} (hk : k ≤ 1048576) (h : c.up.length ≤ 2) : eu7 k c c.up 0 = some (if (aZ7 (fun (x : Int) _ => decide (0 ≤ x) && decide (x < (k : Int))) c.up 0 && decide (c.up[0]? = none ∨ c.up[0]? ≠ c.up[1]?)) = true then .inr () else .inl false) := by
 have hw : IntKind.i64.wrap ((k : Int) - 1) = (k : Int) - 1 := aP7 (by omega) (by omega)
 have hi : ∀ x : Int, (x ≤ (k : Int) - 1) ↔ x < (k : Int) := fun x => by omega
 obtain ⟨up, sh, nt⟩ := c
 match up, h with
 | [], _ => rfl
 | [a], _ =>
  have s0 : slc [a] 0 ((0 : Nat) : Int) = some [] := by simp [slc]
  simp only [eu7, eG7, hw, hi, Option.bind_some, s0, ma7, aZ7]
  by_cases h1 : 0 ≤ a <;> by_cases h2 : a < (k : Int) <;> simp [h1, h2]
 | [a, b], _ =>
  have s0 : slc [a, b] 0 ((0 : Nat) : Int) = some [] := by simp [slc]
  have s1 : slc [a, b] 0 ((0 + 1 : Nat) : Int) = some [a] := by simp [slc]
  simp only [eu7, eG7, hw, hi, Option.bind_some, s0, s1, ma7, sG7, aZ7]
  by_cases e : b = a
  ·subst e
   by_cases h1 : 0 ≤ b <;> by_cases h2 : b < (k : Int) <;> simp [h1, h2]
  ·have e' : ¬ a = b := fun h => e h.symm
   by_cases h1 : 0 ≤ a <;> by_cases h2 : a < (k : Int) <;> by_cases h3 : 0 ≤ b <;> by_cases h4 : b < (k : Int) <;> simp [h1, h2, h3, h4, e, e']
 | _ :: _ :: _ :: _, h => simp at h
theorem iS7 {r : an7} (h : be7 r ≤ 1048576) : iy7 r = some (ba7 r) := by
 unfold be7 at h
 have hc : wL ax7 r.commits ≤ 1048576 := by omega
 have hh : wL gl7 r.heads ≤ 1048576 := by omega
 have hcl : r.commits.length ≤ 1048576 := by unfold wL at hc; omega
 have hhl : r.heads.length ≤ 1048576 := by unfold wL at hh; omega
 have c1 : ((1 : Int) ≤ r.commits.length) ↔ 1 ≤ r.commits.length := by omega
 have c2 : ((r.commits.length : Int) ≤ 14) ↔ r.commits.length ≤ 14 := by omega
 have c3 : ((1 : Int) ≤ r.heads.length) ↔ 1 ≤ r.heads.length := by omega
 have c4 : ((r.heads.length : Int) ≤ 4) ↔ r.heads.length ≤ 4 := by omega
 have k1 : ev7 r r.commits 0 = some (if cy7 r.commits = true then .inr () else .inl false) := by
  refine in7 (gl := ev7 r) (p := fun c k => mUp c.up k && (aQ7 c.sheet && (a87 c.note && decide (bk7 r.commits c = (k : Int))))) (xs := r.commits) (fun _ => rfl) (fun x l k hd => ?_) r.commits 0 rfl
  have hx : x ∈ r.commits := List.mem_of_getElem? (cx7 hd)
  have hkl := cj7 hd
  have hs := bA7 (w := ax7) hx
  have e0 : ax7 x = wL w0 x.up + (wL aU7 x.sheet + (x.note.size + 0)) := rfl
  have hs' : ax7 x ≤ 1048576 := by unfold wL at hc; omega
  have hu : x.up.length ≤ 1048576 := by have : wL w0 x.up = x.up.length + gk7 w0 x.up := rfl; omega
  have d1 : (((k : Int) == 0) == ((x.up.length : Int) == 0)) = (decide (0 < x.up.length) == decide (0 < k)) := by
   rw [zI, zI, QL7, QL7]
   cases decide (k = 0) <;> cases decide (x.up.length = 0) <;> rfl
  have d2 : ((x.up.length : Int) > 2) ↔ ¬ x.up.length ≤ 2 := by omega
  obtain ⟨B, hB⟩ : ∃ B, (decide (0 < x.up.length) == decide (0 < k)) = B := ⟨_, rfl⟩
  rw [hB] at d1
  simp only [ev7, dv7 (fs := x.sheet) (by omega), eF7 (s := x.note) (by omega), fS7 hc, Option.bind_some, d1, d2, mUp, hB]
  clear d1 hB
  by_cases b : x.up.length ≤ 2
  ·rw [P17 (by omega) b, if_pos (ab7 hu)]
   obtain ⟨D, hD⟩ : ∃ D, (decide (x.up[0]? = none ∨ x.up[0]? ≠ x.up[1]?)) = D := ⟨_, rfl⟩
   rw [hD]
   clear hD
   by_cases e : bk7 r.commits x = (k : Int) <;> cases B <;> cases aQ7 x.sheet <;> cases a87 x.note <;> cases aZ7 (fun (x : Int) _ => decide (0 ≤ x) && decide (x < (k : Int))) x.up 0 <;> cases D <;> simp [e, b]
  ·by_cases e : bk7 r.commits x = (k : Int) <;> cases B <;> cases aQ7 x.sheet <;> cases a87 x.note <;> simp [e, b]
 have k2 : ew7 r r.heads 0 = some (if lD7 r.commits.length r.heads = true then .inr () else .inl false) := by
  refine in7 (gl := ew7 r) (p := fun h k => a87 h.name && (decide (aM7 r.heads h.name = (k : Int)) && (decide (0 ≤ h.at_) && decide (h.at_ < (r.commits.length : Int))))) (xs := r.heads) (fun _ => rfl) (fun x l k hd => ?_) r.heads 0 rfl
  have hx : x ∈ r.heads := List.mem_of_getElem? (cx7 hd)
  have hs := bA7 (w := gl7) hx
  have e0 : gl7 x = x.name.size + 0 := rfl
  have hs' : x.name.size ≤ 1048576 := by unfold wL at hh; omega
  simp only [ew7, eF7 hs', cG7 hhl, l97 hcl, Option.bind_some]
  by_cases e : aM7 r.heads x.name = (k : Int) <;> by_cases e1 : 0 ≤ x.at_ <;> by_cases e2 : x.at_ < (r.commits.length : Int) <;> cases a87 x.name <;> simp [e, e1, e2]
 unfold iy7 ba7
 rw [k1, k2, if_pos (ab7 hcl), if_pos (ab7 hhl), eG7, eG7]
 simp only [c1, c2, c3, c4, Option.bind_some]
 by_cases h1 : 1 ≤ r.commits.length <;> by_cases h2 : r.commits.length ≤ 14 <;> by_cases h3 : 1 ≤ r.heads.length <;> by_cases h4 : r.heads.length ≤ 4 <;> cases cy7 r.commits <;> cases lD7 r.commits.length r.heads <;> simp [h1, h2, h3, h4]
theorem t87 {r : an7} {k : Int} (h : be7 r ≤ 1048576) : j67 r k = some (ba7 r && (decide (0 ≤ k) && decide (k < (r.commits.length : Int)))) := by
 unfold j67
 rw [kM7 h]
 by_cases h1 : 0 ≤ k <;> cases ba7 r <;> simp [h1]
theorem ye7 {n j : Nat} : (List.replicate n false)[j]? ≠ some true := by
 rw [List.getElem?_replicate]
 split <;> simp
theorem nR7 {cs : List Commit} {F : List Nat} (hF : ∀ f ∈ F, f < cs.length) : Marks cs F cs.length (d27 (List.replicate cs.length false) (F.map fun (f : Nat) => (f : Int))) where
 len := by rw [jC7, List.length_replicate]
 snd := fun j hj => by
  rcases cJ7.1 hj with hj | ⟨_, u, hu, rfl⟩
  ·exact absurd hj ye7
  ·obtain ⟨f, hf, rfl⟩ := List.mem_map.1 hu
   exact ⟨f, hf, .refl f⟩
 frm := fun f hf => cJ7.2 (.inr ⟨by rw [List.length_replicate]; exact hF f hf, f, List.mem_map.2 ⟨f, hf, rfl⟩, rfl⟩)
 cl := fun j x u hj hb hx hu => by
  have := cn7 hx
  omega
theorem mb7 : ∀ (l : List Int) (k : Nat) (m : List Bool), (∀ u ∈ l, 0 ≤ u ∧ u < (m.length : Int)) → ft7 l k m = some (d27 m l)
 | [], k, m, h => rfl
 | u :: l, k, m, h => by
  have hu := h u (by simp)
  obtain ⟨b, hb⟩ := gJ7 (xs := m) (i := u.toNat) (by omega)
  simp only [ft7, ch7 hu.1, hb, Option.bind_some]
  exact mb7 l (k + 1) _ fun v hv => by
   rw [List.length_set]
   exact h v (by simp [hv])
theorem mc7 {r : an7} {v : Nat} {x : Commit} (hx : r.commits[v]? = some x) (hu : ∀ u ∈ x.up, 0 ≤ u ∧ u < (v : Int)) (h2 : x.up.length ≤ 2) : ∀ (l : List Int) (j n : Nat) (m : List Bool), x.up.drop j = l → l.length < n → m[v]? = some true → dl7 r (v : Int) n (j : Int) m = some (d27 m l)
 | _, _, 0, _, _, h, _ => by omega
 | [], j, n + 1, m, h, hn, hm => by
  simp only [dl7, al7, hx, Option.bind_some, r97 h]
  rfl
 | u :: l, j, n + 1, m, h, hn, hm => by
  have hue := cx7 h
  have hul := hu u (List.mem_of_getElem? hue)
  have hvl := cn7 hm
  obtain ⟨b, hb⟩ := gJ7 (xs := m) (i := u.toNat) (by omega)
  have hjl := cj7 h
  have hw : IntKind.i64.wrap ((j : Int) + 1) = ((j + 1 : Nat) : Int) := by rw [aP7 (by omega) (by omega)]; omega
  simp only [dl7, al7, hx, Option.bind_some, sa7 h, hm, hue, ch7 hul.1, hb, if_true, hw]
  exact mc7 hx hu h2 l (j + 1) n _ (ii7 h) (by simp at hn; omega) (by rw [List.getElem?_set_ne (by omega)]; exact hm)
theorem rn7 {r : an7} {v n : Nat} {x : Commit} {m : List Bool} (hx : r.commits[v]? = some x) (hm : m[v]? = some false) : dl7 r (v : Int) (n + 1) 0 m = some m := by
 simp only [dl7, al7, hx, Option.bind_some, hm]
 split
 ·rfl
 ·rfl
theorem hP7 {r : an7} {F : List Nat} (hc : pg7 r.commits) : ∀ (k n : Nat) (m : List Bool), k < n → k ≤ r.commits.length → k ≤ 1048576 → Marks r.commits F k m → fu7 r n ((k : Int) - 1) m = some (kK7 r.commits F)
 | _, 0, _, h, _, _, _ => by omega
 | 0, n + 1, m, _, _, _, h => by
  rw [h.fin]
  rfl
 | k + 1, n + 1, m, hn, hk, hb, h => by
  obtain ⟨x, hx⟩ := gJ7 (xs := r.commits) (i := k) (by omega)
  obtain ⟨b, hb2⟩ := gJ7 (xs := m) (i := k) (by rw [h.len]; omega)
  have e1 : (((k + 1 : Nat) : Int) - 1) = (k : Int) := by omega
  have hw : IntKind.i64.wrap ((k : Int) - 1) = (k : Int) - 1 := aP7 (by omega) (by omega)
  have hge : decide ((k : Int) ≥ 0) = true := decide_eq_true (by omega)
  have hr : a47 = 4194303 + 1 := rfl
  rw [e1]
  simp only [fu7, hge, if_true, hw]
  cases b
  ·rw [hr, rn7 hx hb2]
   exact hP7 hc k n m (by omega) (by omega) (by omega) (h.skip (by rw [hb2]; simp))
  ·have h2 := hc.two x (List.mem_of_getElem? hx)
   have := mc7 hx (hc.lt k x hx) h2 x.up 0 a47 m rfl (by rw [hr]; omega) hb2
   simp only [Int.ofNat_zero, Int.natCast_zero] at this
   rw [this]
   exact hP7 hc k n _ (by omega) (by omega) (by omega) (h.step hc hb2 hx)
theorem yf7 {r : an7} {F : List Nat} (hc : pg7 r.commits) (hl : r.commits.length ≤ 1048576) (hF : ∀ f ∈ F, f < r.commits.length) (hFl : F.length ≤ 1048576) : j77 r (F.map fun (f : Nat) => (f : Int)) = some (kK7 r.commits F) := by
 have hr : a47 = 4194303 + 1 := rfl
 unfold j77
 rw [if_pos (by simp [ab7 hl]), if_pos (ab7 (by simpa using hFl)), Int.toNat_natCast, mb7 _ _ _ (fun u hu => by
  obtain ⟨f, hf, rfl⟩ := List.mem_map.1 hu
  have := hF f hf
  rw [List.length_replicate]
  omega), aP7 (by omega) (by omega)]
 simp only [Option.bind_some]
 rw [hP7 hc r.commits.length a47 _ (by rw [hr]; omega) (Nat.le_refl _) hl (nR7 hF)]
 rfl
theorem jE7 {r : an7} {k : Nat} (hc : pg7 r.commits) (hl : r.commits.length ≤ 1048576) (hk : k < r.commits.length) : j77 r [(k : Int)] = some (kK7 r.commits [k]) := by
 have := yf7 (r := r) (F := [k]) hc hl (by simpa using hk) (by simp)
 simpa using this
theorem t97 : ∀ (l : List Int) (k : Nat) (m : List Bool), (∀ u ∈ l, 0 ≤ u ∧ u < (m.length : Int)) → fH7 l k m = some (d27 m l)
 | [], k, m, h => rfl
 | u :: l, k, m, h => by
  have hu := h u (by simp)
  obtain ⟨b, hb⟩ := gJ7 (xs := m) (i := u.toNat) (by omega)
  simp only [fH7, ch7 hu.1, hb, Option.bind_some]
  exact t97 l (k + 1) _ fun v hv => by
   rw [List.length_set]
   exact h v (by simp [hv])
theorem o07 {r : an7} {F : List Nat} (hc : pg7 r.commits) : ∀ (k n : Nat) (m : List Bool), k < n → k ≤ r.commits.length → k ≤ 1048576 → Marks r.commits F k m → ex7 r n ((k : Int) - 1) m = some (kK7 r.commits F)
 | _, 0, _, h, _, _, _ => by omega
 | 0, n + 1, m, _, _, _, h => by
  rw [h.fin]
  rfl
 | k + 1, n + 1, m, hn, hk, hb, h => by
  obtain ⟨x, hx⟩ := gJ7 (xs := r.commits) (i := k) (by omega)
  obtain ⟨b, hb2⟩ := gJ7 (xs := m) (i := k) (by rw [h.len]; omega)
  have e1 : (((k + 1 : Nat) : Int) - 1) = (k : Int) := by omega
  have hw : IntKind.i64.wrap ((k : Int) - 1) = (k : Int) - 1 := aP7 (by omega) (by omega)
  have hge : decide ((k : Int) ≥ 0) = true := decide_eq_true (by omega)
  rw [e1]
  simp only [ex7, hge, if_true, hw, al7, hb2, Option.bind_some]
  cases b
  ·exact o07 hc k n m (by omega) (by omega) (by omega) (h.skip (by rw [hb2]; simp))
  ·have h2 := hc.two x (List.mem_of_getElem? hx)
   simp only [hx, if_true, Option.bind_some]
   rw [if_pos (ab7 (by omega)), t97 x.up 0 m (fun u hu => by
    have := hc.lt k x hx u hu
    rw [h.len]
    omega)]
   exact o07 hc k n _ (by omega) (by omega) (by omega) (h.step hc hb2 hx)
theorem ro7 {r : an7} {k : Nat} (hc : pg7 r.commits) (hl : r.commits.length ≤ 1048576) (hk : k < r.commits.length) : iz7 r (k : Int) = some (kK7 r.commits [k]) := by
 have hr : a47 = 4194303 + 1 := rfl
 have h0 : (List.replicate r.commits.length false)[k]? = some false := by rw [List.getElem?_replicate, if_pos hk]
 have hm : Marks r.commits [k] (k + 1) ((List.replicate r.commits.length false).set k true) := by
  have := nR7 (cs := r.commits) (F := [k]) (by simpa using hk)
  exact sC7 hc (by simpa [d27] using this) (by simp) (by omega)
 have e1 : (((k + 1 : Nat) : Int) - 1) = (k : Int) := by omega
 have := o07 hc (k + 1) a47 _ (by rw [hr]; omega) (by omega) (by omega) hm
 rw [e1] at this
 unfold iz7
 rw [if_pos (by simp [ab7 hl])]
 simp only [Int.toNat_natCast, al7, h0, Option.bind_some, this]
theorem iT7 {r : an7} {v : Nat} {x : Commit} (hx : r.commits[v]? = some x) (h2 : x.up.length ≤ 2) : ∀ (l : List Int) (j n : Nat) (m : List Bool), x.up.drop j = l → l.length < n → (∀ u ∈ l, 0 ≤ u ∧ u < (m.length : Int)) → dF7 r (v : Int) n (j : Int) m = some (d27 m l)
 | _, _, 0, _, _, h, _ => by omega
 | [], j, n + 1, m, h, hn, hm => by
  simp only [dF7, al7, hx, Option.bind_some, r97 h]
  rfl
 | u :: l, j, n + 1, m, h, hn, hm => by
  have hue := cx7 h
  have hul := hm u (by simp)
  obtain ⟨b, hb⟩ := gJ7 (xs := m) (i := u.toNat) (by omega)
  have hjl := cj7 h
  have hw : IntKind.i64.wrap ((j : Int) + 1) = ((j + 1 : Nat) : Int) := by rw [aP7 (by omega) (by omega)]; omega
  simp only [dF7, al7, hx, Option.bind_some, sa7 h, hue, ch7 hul.1, hb, if_true, hw]
  exact iT7 hx h2 l (j + 1) n _ (ii7 h) (by simp at hn; omega) (fun v hv => by rw [List.length_set]; exact hm v (by simp [hv]))
open Classical in
theorem fU7 {r : an7} {a b : Nat} (hc : pg7 r.commits) : ∀ (k n : Nat) (out : List Int) (d : List Bool), k < n → k ≤ r.commits.length → k ≤ 1048576 → out.length + k ≤ 1048576 → d.length = r.commits.length → (∀ j, j < k → (d[j]? = some true ↔ ∃ c x u, k ≤ c ∧ Com r.commits a b c ∧ r.commits[c]? = some x ∧ u ∈ x.up ∧ j = u.toNat)) → cP7 (kK7 r.commits [a]) (kK7 r.commits [b]) r n ((k : Int) - 1) out d = some (out ++ go7 (fun k => decide (ms7 r.commits a b k)) k)
 | _, 0, _, _, h, _, _, _, _, _ => by omega
 | 0, n + 1, out, d, _, _, _, _, _, _ => by
  simp only [go7, List.append_nil]
  rfl
 | k + 1, n + 1, out, d, hn, hk, hb, ho, hd, hi => by
  obtain ⟨x, hx⟩ := gJ7 (xs := r.commits) (i := k) (by omega)
  obtain ⟨bd, hbd⟩ := gJ7 (xs := d) (i := k) (by omega)
  have e1 : (((k + 1 : Nat) : Int) - 1) = (k : Int) := by omega
  have hw : IntKind.i64.wrap ((k : Int) - 1) = (k : Int) - 1 := aP7 (by omega) (by omega)
  have hge : decide ((k : Int) ≥ 0) = true := decide_eq_true (by omega)
  have h2 := hc.two x (List.mem_of_getElem? hx)
  have hr : a47 = 4194303 + 1 := rfl
  have skip : ¬ Com r.commits a b k → cP7 (kK7 r.commits [a]) (kK7 r.commits [b]) r n ((k : Int) - 1) out d = some (out ++ go7 (fun k => decide (ms7 r.commits a b k)) (k + 1)) := fun hnc => by
   have hnb : ¬ ms7 r.commits a b k := fun h => hnc h.1
   rw [fU7 hc k n out d (by omega) (by omega) (by omega) (by omega) hd fun j hj => ?_]
   ·simp [go7, hnb]
   ·rw [hi j (by omega)]
    constructor
    ·rintro ⟨c, y, u, h1, h3⟩
     exact ⟨c, y, u, by omega, h3⟩
    ·rintro ⟨c, y, u, h1, h3⟩
     rcases Nat.eq_or_lt_of_le h1 with rfl | h1
     ·exact absurd h3.1 hnc
     ·exact ⟨c, y, u, h1, h3⟩
  rw [e1]
  simp only [cP7, hge, if_true, hw, al7, e47 (show k < r.commits.length by omega), hbd, Option.bind_some]
  by_cases h1 : Anc r.commits a k
  ·by_cases h3 : Anc r.commits b k
   ·have hcom : Com r.commits a b k := ⟨h1, h3⟩
    have hdb : bd = true ↔ ¬ ms7 r.commits a b k := by
     rw [← yc7 hc hcom]
     have := hi k (by omega)
     rw [hbd] at this
     simp only [Option.some.injEq] at this
     rw [this]
     constructor
     ·rintro ⟨c, y, u, _, h⟩
      exact ⟨c, y, u, h⟩
     ·rintro ⟨c, y, u, h4, h5, h6, h7⟩
      have := hc.lt _ _ h5 _ h6
      exact ⟨c, y, u, by omega, h4, h5, h6, h7⟩
    have hstep : dF7 r (k : Int) a47 0 d = some (d27 d x.up) := by
     have := iT7 hx h2 x.up 0 a47 d rfl (by rw [hr]; omega) (fun u hu => by have := hc.lt k x hx u hu; omega)
     simpa using this
    have ih : ∀ out', out'.length + k ≤ 1048576 → cP7 (kK7 r.commits [a]) (kK7 r.commits [b]) r n ((k : Int) - 1) out' (d27 d x.up) = some (out' ++ go7 (fun k => decide (ms7 r.commits a b k)) k) := fun out' ho' => by
     refine fU7 hc k n out' _ (by omega) (by omega) (by omega) ho' (by rw [jC7, hd]) fun j hj => ?_
     rw [cJ7, hi j (by omega)]
     constructor
     ·rintro (⟨c, y, u, h4, h5⟩ | ⟨_, u, h4, rfl⟩)
      ·exact ⟨c, y, u, by omega, h5⟩
      ·exact ⟨k, x, u, Nat.le_refl _, hcom, hx, h4, rfl⟩
     ·rintro ⟨c, y, u, h4, h5, h6, h7, h8⟩
      rcases Nat.eq_or_lt_of_le h4 with rfl | h4
      ·rw [hx] at h6
       cases h6
       exact .inr ⟨by omega, u, h7, h8.symm⟩
      ·exact .inl ⟨c, y, u, h4, h5, h6, h7, h8⟩
    simp only [h1, h3, decide_true, Bool.not_true, hstep, Option.bind_some]
    cases bd
    ·have hbase : ms7 r.commits a b k := Classical.byContradiction fun h => by simpa using hdb.2 h
     simp only [Bool.not_false, if_true]
     rw [if_neg (by decide), if_neg (by decide), if_pos (ab7 (by simp; omega))]
     simp only [Option.bind_some]
     rw [ih _ (by simp; omega)]
     simp [go7, hbase]
    ·have hbase : ¬ ms7 r.commits a b k := hdb.1 rfl
     simp only [Bool.not_true]
     rw [if_neg (by decide), if_neg (by decide), if_neg (by decide)]
     simp only [Option.bind_some]
     rw [ih _ (by omega)]
     simp [go7, hbase]
   ·simp only [h1, h3, decide_true, decide_false, Bool.not_true, Bool.not_false]
    rw [if_neg (by decide), if_pos trivial]
    exact skip fun h => h3 h.2
  ·simp only [h1, decide_false, Bool.not_false, if_true]
   exact skip fun h => h1 h.1
def inR (r : an7) (k : Int) : Bool := ba7 r && (decide (0 ≤ k) && decide (k < (r.commits.length : Int)))
theorem ua7 {r : an7} {k : Int} (h : inR r k = true) : ba7 r = true ∧ ∃ n : Nat, k = (n : Int) ∧ n < r.commits.length := by
 unfold inR at h
 simp only [Bool.and_eq_true, decide_eq_true_eq] at h
 exact ⟨h.1, k.toNat, by omega, by omega⟩
theorem sH7 {r : an7} {a b : Int} (hw : be7 r ≤ 1048576) : qr7 r a b = some (if (inR r a && inR r b) = true then nP7 r.commits a.toNat b.toNat else []) := by
 unfold qr7
 rw [t87 hw, t87 hw]
 by_cases h1 : inR r a = true
 ·by_cases h2 : inR r b = true
  ·obtain ⟨hr, i, rfl, hi⟩ := ua7 h1
   obtain ⟨_, j, rfl, hj⟩ := ua7 h2
   have hc := cg7 hr
   have hl := (do7 hr).1.2
   have hrd : a47 = 4194303 + 1 := rfl
   rw [h1, h2]
   simp only [inR] at h1 h2
   rw [h1, h2, jE7 hc (by omega) hi, jE7 hc (by omega) hj]
   simp only [Option.bind_some, Bool.not_true, if_true]
   rw [if_neg (by decide), if_neg (by decide), if_pos (by simp [ab7 (n := r.commits.length) (by omega)]), aP7 (by omega) (by omega), Int.toNat_natCast, fU7 hc r.commits.length a47 [] _ (by rw [hrd]; omega) (Nat.le_refl _) (by omega) (by simp; omega) (by simp) (fun k hk => ?_)]
   ·rfl
   ·constructor
    ·exact fun h => absurd h ye7
    ·rintro ⟨c, x, u, h3, h4, h5, _⟩
     have := cn7 h5
     omega
  ·have h2' := h2
   simp only [inR] at h1 h2'
   rw [h1]
   simp only [Bool.not_eq_true] at h2'
   rw [h2']
   simp [h2]
 ·have h1' := h1
  simp only [inR, Bool.not_eq_true] at h1'
  rw [h1']
  simp [h1]
open Classical in
theorem vo7 {r : an7} (hc : pg7 r.commits) (hl : r.commits.length ≤ 1048576) {k : Nat} (hk : k < r.commits.length) {out : List Int} (ho : ∀ u ∈ out, ∃ j : Nat, u = (j : Int) ∧ j < r.commits.length) (hlen : out.length ≤ 1048576) : qH7 out r (k : Int) = some (decide (∃ j : Nat, (j : Int) ∈ out ∧ Anc r.commits j k)) := by
 have key0 : qG7 out r (k : Int) = some (az7 (fun u => decide (Anc r.commits u.toNat k)) out 0) := by
  unfold qG7
  rw [if_pos (ab7 hlen)]
  exact ow7 (gl := fI7 r (k : Int)) (p := fun u => decide (Anc r.commits u.toNat k)) (ok := fun u => ∃ j : Nat, u = (j : Int) ∧ j < r.commits.length) (fun _ => rfl) (fun u l i hu => by
   obtain ⟨j, rfl, hj⟩ := hu
   simp only [fI7, tT7, ro7 hc hl hj, Option.bind_some, al7, e47 hk, Int.toNat_natCast]) out 0 ho
 unfold qH7
 rw [key0]
 ·simp only [Option.bind_some, Option.some.injEq]
  have key : ∀ (l : List Int) (i : Nat), (∀ u ∈ l, ∃ j : Nat, u = (j : Int) ∧ j < r.commits.length) → (az7 (fun u => decide (Anc r.commits u.toNat k)) l i ≥ 0 ↔ ∃ j : Nat, (j : Int) ∈ l ∧ Anc r.commits j k) := fun l => by
   induction l with
   | nil => intro i _; simp [az7]
   | cons u l ih =>
    intro i hl
    obtain ⟨j, rfl, hj⟩ := hl u (by simp)
    simp only [az7, Int.toNat_natCast]
    by_cases hp : Anc r.commits j k
    ·rw [if_pos (by simpa using hp)]
     exact ⟨fun _ => ⟨j, by simp, hp⟩, fun _ => by omega⟩
    ·rw [if_neg (by simpa using hp), ih (i + 1) fun u hu => hl u (by simp [hu])]
     constructor
     ·rintro ⟨j', h1, h2⟩
      exact ⟨j', by simp [h1], h2⟩
     ·rintro ⟨j', h1, h2⟩
      rcases List.mem_cons.1 h1 with h1 | h1
      ·have : j' = j := by omega
       subst this
       exact absurd h2 hp
      ·exact ⟨j', h1, h2⟩
  exact decide_eq_decide.2 (key out 0 ho)
open Classical in
theorem fV7 {r : an7} {a b : Nat} (hc : pg7 r.commits) (hl : r.commits.length ≤ 1048576) : ∀ (k n : Nat) (out : List Int), k < n → k ≤ r.commits.length → out.length + k ≤ 1048576 → (∀ u, u ∈ out ↔ ∃ j : Nat, u = (j : Int) ∧ k ≤ j ∧ ms7 r.commits a b j ∧ j < r.commits.length) → iA7 (kK7 r.commits [a]) (kK7 r.commits [b]) r n out ((k : Int) - 1) = some (out ++ go7 (fun k => decide (ms7 r.commits a b k)) k)
 | _, 0, _, h, _, _, _ => by omega
 | 0, n + 1, out, _, _, _, _ => by
  simp only [go7, List.append_nil]
  rfl
 | k + 1, n + 1, out, hn, hk, ho, hi => by
  have e1 : (((k + 1 : Nat) : Int) - 1) = (k : Int) := by omega
  have hw : IntKind.i64.wrap ((k : Int) - 1) = (k : Int) - 1 := aP7 (by omega) (by omega)
  have hge : decide ((k : Int) ≥ 0) = true := decide_eq_true (by omega)
  have skip : ¬ ms7 r.commits a b k → iA7 (kK7 r.commits [a]) (kK7 r.commits [b]) r n out ((k : Int) - 1) = some (out ++ go7 (fun k => decide (ms7 r.commits a b k)) (k + 1)) := fun hnb => by
   rw [fV7 hc hl k n out (by omega) (by omega) (by omega) fun u => ?_]
   ·simp [go7, hnb]
   ·rw [hi u]
    constructor
    ·rintro ⟨j, h1, h2, h3⟩
     exact ⟨j, h1, by omega, h3⟩
    ·rintro ⟨j, h1, h2, h3⟩
     rcases Nat.eq_or_lt_of_le h2 with rfl | h2
     ·exact absurd h3.1 hnb
     ·exact ⟨j, h1, h2, h3⟩
  have take : ms7 r.commits a b k → iA7 (kK7 r.commits [a]) (kK7 r.commits [b]) r n (out ++ [(k : Int)]) ((k : Int) - 1) = some (out ++ go7 (fun k => decide (ms7 r.commits a b k)) (k + 1)) := fun hb => by
   rw [fV7 hc hl k n _ (by omega) (by omega) (by simp; omega) fun u => ?_]
   ·simp [go7, hb]
   ·rw [List.mem_append, hi u, List.mem_singleton]
    constructor
    ·rintro (⟨j, h1, h2, h3⟩ | rfl)
     ·exact ⟨j, h1, by omega, h3⟩
     ·exact ⟨k, rfl, Nat.le_refl _, hb, by omega⟩
    ·rintro ⟨j, h1, h2, h3⟩
     rcases Nat.eq_or_lt_of_le h2 with rfl | h2
     ·exact .inr h1
     ·exact .inl ⟨j, h1, h2, h3⟩
  rw [e1]
  simp only [iA7, hge, if_true, hw, al7, e47 (show k < r.commits.length by omega), Option.bind_some]
  by_cases h1 : Anc r.commits a k
  ·by_cases h3 : Anc r.commits b k
   ·have hcom : Com r.commits a b k := ⟨h1, h3⟩
    rw [vo7 hc hl (by omega) (fun u hu => by
     obtain ⟨j, h4, _, _, h5⟩ := (hi u).1 hu
     exact ⟨j, h4, h5⟩) (by omega)]
    have hct : (∃ j : Nat, (j : Int) ∈ out ∧ Anc r.commits j k) ↔ ¬ ms7 r.commits a b k := by
     rw [← t57 hc hcom]
     constructor
     ·rintro ⟨j, h4, h5⟩
      obtain ⟨j', h6, h7, h8, h9⟩ := (hi _).1 h4
      have : j = j' := by omega
      subst this
      exact ⟨j, by omega, h8, h5⟩
     ·rintro ⟨j, h4, h5, h6⟩
      refine ⟨j, (hi _).2 ⟨j, rfl, by omega, h5, ?_⟩, h6⟩
      rcases h6.last with rfl | ⟨c, x, u, h7, h8, _⟩
      ·omega
      ·rcases Nat.lt_or_ge j r.commits.length with h | h
       ·exact h
       ·exfalso
        have : ∀ p q, Anc r.commits p q → r.commits.length ≤ p → q = p := fun p q hpq hp => by
         induction hpq with
         | refl => rfl
         | up ha hx hu ih =>
          have := cn7 hx
          omega
        have := this j k h6 h
        omega
    simp only [h1, h3, decide_true, Bool.not_true, Option.bind_some]
    rw [if_neg (by decide), if_neg (by decide)]
    by_cases hb : ms7 r.commits a b k
    ·have hf : decide (∃ j : Nat, (j : Int) ∈ out ∧ Anc r.commits j k) = false := decide_eq_false fun h => hct.1 h hb
     rw [hf]
     simp only [Bool.not_false, if_true]
     rw [if_pos (ab7 (by simp; omega))]
     exact take hb
    ·have hf : decide (∃ j : Nat, (j : Int) ∈ out ∧ Anc r.commits j k) = true := decide_eq_true (hct.2 hb)
     rw [hf]
     simp only [Bool.not_true]
     rw [if_neg (by decide)]
     exact skip hb
   ·simp only [h1, h3, decide_true, decide_false, Bool.not_true, Bool.not_false]
    rw [if_neg (by decide), if_pos trivial]
    exact skip fun h => h3 h.1.2
  ·simp only [h1, decide_false, Bool.not_false, if_true]
   exact skip fun h => h1 h.1.1
theorem sI7 {r : an7} {a b : Int} (hw : be7 r ≤ 1048576) : qI7 r a b = some (if (inR r a && inR r b) = true then nP7 r.commits a.toNat b.toNat else []) := by
 have hla : r.commits.length ≤ 1048576 := by unfold be7 wL at hw; omega
 unfold qI7
 rw [iS7 hw, l97 hla, l97 hla]
 by_cases h1 : inR r a = true
 ·by_cases h2 : inR r b = true
  ·obtain ⟨hr, i, rfl, hi⟩ := ua7 h1
   obtain ⟨_, j, rfl, hj⟩ := ua7 h2
   have hc := cg7 hr
   have hl := (do7 hr).1.2
   have hrd : a47 = 4194303 + 1 := rfl
   rw [h1, h2, hr]
   simp only [Option.bind_some, Bool.not_true, ro7 hc hla hi, ro7 hc hla hj, t37]
   have e1 : (decide ((0 : Int) ≤ (i : Int)) && decide ((i : Int) < (r.commits.length : Int))) = true := by simp; omega
   have e2 : (decide ((0 : Int) ≤ (j : Int)) && decide ((j : Int) < (r.commits.length : Int))) = true := by simp; omega
   rw [e1, e2]
   simp only [Bool.not_true, Bool.and_true, if_true]
   rw [if_neg (by decide), if_neg (by decide), if_neg (by decide), aP7 (by omega) (by omega), fV7 hc hla r.commits.length a47 [] (by rw [hrd]; omega) (Nat.le_refl _) (by simp; omega) (fun u => ?_)]
   ·rfl
   ·constructor
    ·intro h; cases h
    ·rintro ⟨j, _, h3, _, h4⟩
     omega
  ·rw [h1]
   unfold inR at h1 h2
   simp only [Bool.and_eq_true] at h1
   simp only [h1.1, h1.2, Bool.true_and, Bool.not_eq_true] at h2
   simp only [h1.1, h2, inR]
   simp only [h1.2]
   simp
 ·unfold inR at h1
  by_cases hr : ba7 r = true
  ·simp only [hr, Bool.true_and, Bool.not_eq_true] at h1
   simp [hr, h1, inR]
  ·simp [hr, inR]
noncomputable def cV7 (r : an7) (a b : Int) : Int := ((if (inR r a && inR r b) = true then nP7 r.commits a.toNat b.toNat else []).head?).getD (-1)
theorem vp7 {r : an7} {a b : Int} (hw : be7 r ≤ 1048576) : qx7 r a b = some (cV7 r a b) := by
 unfold qx7 cV7
 rw [sH7 hw]
 simp only [Option.bind_some]
 generalize (if (inR r a && inR r b) = true then nP7 r.commits a.toNat b.toNat else []) = l
 cases l with
 | nil => rfl
 | cons x l =>
  rw [if_neg (by simp; omega)]
  rfl
theorem nS7 {r : an7} {a b : Int} (hw : be7 r ≤ 1048576) : nE7 r a b = some (cV7 r a b) := by
 unfold nE7 cV7
 rw [sI7 hw]
 simp only [Option.bind_some]
 generalize (if (inR r a && inR r b) = true then nP7 r.commits a.toNat b.toNat else []) = l
 cases l with
 | nil => rfl
 | cons x l =>
  rw [if_neg (by simp; omega)]
  rfl
def c1 {α : Type} (_ : α) : Nat := 1
def c2 {α : Type} (_ : α) : Nat := 2
theorem rp7 {α : Type} {p : α → Bool} : ∀ {l : List α} {k : Nat}, az7 p l k = -1 ∨ ∃ j x, az7 p l k = ((k + j : Nat) : Int) ∧ l[j]? = some x ∧ p x = true
 | [], k => .inl rfl
 | x :: l, k => by
  simp only [az7]
  by_cases h : p x = true
  ·rw [if_pos h]
   exact .inr ⟨0, x, rfl, rfl, h⟩
  ·rw [if_neg h]
   rcases rp7 (p := p) (l := l) (k := k + 1) with h1 | ⟨j, y, h1, h2, h3⟩
   ·exact .inl h1
   ·exact .inr ⟨j + 1, y, by rw [h1]; congr 1; omega, by simpa using h2, h3⟩
theorem fW7 {r : an7} (hr : ba7 r = true) (n : Str) : aM7 r.heads n = -1 ∨ ∃ (k a : Nat) (h : Head), aM7 r.heads n = (k : Int) ∧ r.heads[k]? = some h ∧ h.name = n ∧ h.at_ = (a : Int) ∧ a < r.commits.length := by
 rcases rp7 (p := fun x : Head => decide (x.name = n)) (l := r.heads) (k := 0) with h | ⟨j, x, h1, h2, h3⟩
 ·exact .inl h
 ·refine .inr ⟨j, x.at_.toNat, x, by unfold aM7; rw [h1]; simp, h2, by simpa using h3, ?_⟩
  unfold ba7 at hr
  simp only [Bool.and_eq_true] at hr
  have := cf7 hr.2.2.2.2.2 j x h2
  simp only [Bool.and_eq_true, decide_eq_true_eq] at this
  omega
def cW7 (r : an7) (n : Str) : Int := if ba7 r = true then (match idx r.heads (aM7 r.heads n) with | some h => h.at_ | none => -1) else -1
theorem kk7 (r : an7) (n : Str) : (cW7 r n = -1 ∧ (ba7 r = true → aM7 r.heads n = -1)) ∨ ∃ (k a : Nat) (h : Head), ba7 r = true ∧ aM7 r.heads n = (k : Int) ∧ r.heads[k]? = some h ∧ h.name = n ∧ h.at_ = (a : Int) ∧ a < r.commits.length ∧ cW7 r n = (a : Int) := by
 by_cases hr : ba7 r = true
 ·rcases fW7 hr n with h | ⟨k, a, h, h1, h2, h3, h4, h5⟩
  ·refine .inl ⟨?_, fun _ => h⟩
   unfold cW7
   rw [if_pos hr, h]
   rfl
  ·refine .inr ⟨k, a, h, hr, h1, h2, h3, h4, h5, ?_⟩
   unfold cW7
   rw [if_pos hr, h1, al7, h2]
   exact h4
 ·exact .inl ⟨by unfold cW7; rw [if_neg hr], fun h => absurd h hr⟩
theorem AR7 {r : an7} {n : Str} (hw : be7 r ≤ 1048576) : hq7 r n = some (cW7 r n) := by
 have hh : r.heads.length ≤ 1048576 := by unfold be7 wL at hw; omega
 unfold hq7
 rw [fT7 hh, kM7 hw]
 simp only [Option.bind_some]
 rcases kk7 r n with ⟨h1, h2⟩ | ⟨k, a, h, hr, h1, h2, h3, h4, h5, h6⟩
 ·rw [h1]
  by_cases hr : ba7 r = true
  ·rw [hr, h2 hr]
   rfl
  ·simp only [Bool.not_eq_true] at hr
   rw [hr]
   rfl
 ·rw [h6, hr, h1]
  simp only [Bool.not_true]
  rw [if_neg (by decide), if_neg (by simp), al7, h2]
  simp [h4]
theorem iU7 {α : Type} {g : α → Option α} {gl : List α → Nat → List α → Option (List α)} (h0 : ∀ k v, gl [] k v = some v) (h1 : ∀ x l k v, gl (x :: l) k v = (g x).bind fun y => if aI7 (v ++ [y]).length = true then gl l (k + 1) (v ++ [y]) else none) : ∀ (l : List α) (k : Nat) (v : List α), (∀ x ∈ l, g x = some x) → v.length + l.length ≤ 1048576 → gl l k v = some (v ++ l)
 | [], k, v, _, _ => by rw [h0]; simp
 | x :: l, k, v, hx, hl => by
  simp only [List.length_cons] at hl
  rw [h1, hx x (by simp)]
  simp only [Option.bind_some]
  rw [if_pos (ab7 (by simp; omega)), iU7 h0 h1 l (k + 1) _ (fun y hy => hx y (by simp [hy])) (by simp; omega)]
  simp
theorem o17 {f : Feat} (h : aU7 f ≤ 1048576) : hk7 f = some f := by
 unfold aU7 im7 wL at h
 unfold hk7 qp7
 rw [if_pos (ab7 (by simp; omega))]
 simp only [Option.bind_some]
 rw [if_pos (ab7 (by simp; omega))]
 rfl
theorem o27 {fs : List Feat} (h : wL aU7 fs ≤ 1048576) : nx7 fs = some fs := by
 have hl : fs.length ≤ 1048576 := by unfold wL at h; omega
 unfold nx7
 rw [if_pos (ab7 hl), iU7 (gl := gZ7) (fun _ _ => rfl) (fun _ _ _ _ => rfl) fs 0 [] (fun x hx => o17 (by have := bA7 (w := aU7) hx; unfold wL at h; omega)) (by simpa using hl)]
 rfl
theorem yg7 {c : Commit} (h : ax7 c ≤ 1048576) : j47 c = some c := by
 unfold ax7 at h
 unfold j47
 rw [if_pos (ab7 (by unfold wL at h; simp; omega)), o27 (by omega)]
 rfl
theorem o37 {r : an7} (h : be7 r ≤ 1048576) : lL7 r = some r := by
 unfold be7 at h
 have hl : r.commits.length ≤ 1048576 := by unfold wL at h; omega
 unfold lL7
 rw [if_pos (ab7 (by unfold wL at h; simp; omega)), if_pos (ab7 hl), iU7 (gl := g17) (fun _ _ => rfl) (fun _ _ _ _ => rfl) r.commits 0 [] (fun x hx => yg7 (by have := bA7 (w := ax7) hx; unfold wL at h; omega)) (by simpa using hl)]
 rfl
theorem fX7 {f : Feat} (h : aU7 f ≤ 1048576) : ho7 f = some f := by
 unfold aU7 im7 wL at h
 unfold ho7 qF7
 rw [if_pos (ab7 (by simp; omega))]
 simp only [Option.bind_some]
 rw [if_pos (ab7 (by simp; omega))]
 rfl
theorem eH7 {fs : List Feat} (h : wL aU7 fs ≤ 1048576) : lO7 fs = some fs := by
 have hl : fs.length ≤ 1048576 := by unfold wL at h; omega
 unfold lO7
 rw [if_pos (ab7 hl), iU7 (gl := g27) (fun _ _ => rfl) (fun _ _ _ _ => rfl) fs 0 [] (fun x hx => fX7 (by have := bA7 (w := aU7) hx; unfold wL at h; omega)) (by simpa using hl)]
 rfl
theorem iV7 {c : Commit} (h : ax7 c ≤ 1048576) : ka7 c = some c := by
 unfold ax7 at h
 unfold ka7
 rw [if_pos (ab7 (by unfold wL at h; simp; omega)), eH7 (by omega)]
 rfl
theorem hQ7 {r : an7} (h : be7 r ≤ 1048576) : lR7 r = some r := by
 unfold be7 at h
 have hl : r.commits.length ≤ 1048576 := by unfold wL at h; omega
 unfold lR7
 rw [if_pos (ab7 (by unfold wL at h; simp; omega)), if_pos (ab7 hl), iU7 (gl := g57) (fun _ _ => rfl) (fun _ _ _ _ => rfl) r.commits 0 [] (fun x hx => iV7 (by have := bA7 (w := ax7) hx; unfold wL at h; omega)) (by simpa using hl)]
 rfl
def QM7 : an7 := ⟨[], []⟩
def eP7 (r : an7) (n f : Str) : an7 × Int :=
 if (ba7 r && a87 n) = true then
  (if aM7 r.heads f < 0 then (r, 1) else if 0 ≤ aM7 r.heads n ∨ r.heads.length = 4 then (r, 2) else
   match idx r.heads (aM7 r.heads f) with
   | some h => (⟨r.commits, r.heads ++ [⟨n, h.at_⟩]⟩, 0)
   | none => (QM7, 9))
 else (QM7, 4)
theorem rq7 {r : an7} {n f : Str} (hw : be7 r ≤ 1048576) (hn : n.size ≤ 1048576) : nN7 r n f = some (eP7 r n f) := by
 have hh : r.heads.length ≤ 1048576 := by unfold be7 wL at hw; omega
 unfold nN7 eP7
 rw [iS7 hw, eF7 hn, hQ7 hw, cG7 hh, cG7 hh]
 simp only [Option.bind_some]
 by_cases hr : ba7 r = true
 ·by_cases hx : a87 n = true
  ·have h4 : r.heads.length ≤ 4 := (do7 hr).2.2
   rw [hr, hx]
   simp only [Bool.not_true, Bool.and_self, if_true]
   rw [if_neg (by decide), if_neg (by decide)]
   rcases fW7 hr f with h | ⟨k, a, h, h1, h2, _⟩
   ·rw [h]
    rfl
   ·rw [h1]
    have hk : ¬ ((k : Int) < 0) := by omega
    by_cases h5 : 0 ≤ aM7 r.heads n
    ·simp [hk, h5]
    ·by_cases h6 : r.heads.length = 4
     ·simp [hk, h5, h6]
     ·have h6' : ¬ ((r.heads.length : Int) = 4) := by omega
      have h6'' : ¬ ((4 : Int) ≤ (r.heads.length : Int)) := by omega
      have hfit : aI7 (r.heads.length + 1) = true := ab7 (by omega)
      simp [hk, h5, h6, h6', h6'', al7, h2, hfit]
  ·simp only [Bool.not_eq_true] at hx
   rw [hr, hx]
   rfl
 ·simp only [Bool.not_eq_true] at hr
  rw [hr]
  rfl
theorem rr7 {r : an7} {n f : Str} (hw : be7 r ≤ 1048576) (hn : n.size ≤ 1048576) : qX7 r n f = some (eP7 r n f) := by
 have hh : r.heads.length ≤ 1048576 := by unfold be7 wL at hw; omega
 unfold qX7 eP7
 rw [kM7 hw, eE7 hn, o37 hw, fT7 hh, fT7 hh]
 simp only [Option.bind_some]
 by_cases hr : ba7 r = true
 ·by_cases hx : a87 n = true
  ·have h4 : r.heads.length ≤ 4 := (do7 hr).2.2
   rw [hr, hx]
   simp only [Bool.not_true, Bool.and_self, if_true]
   rw [if_neg (by decide), if_neg (by decide)]
   rcases fW7 hr f with h | ⟨k, a, h, h1, h2, _⟩
   ·rw [h]
    rfl
   ·rw [h1]
    have hk : ¬ ((k : Int) < 0) := by omega
    by_cases h5 : 0 ≤ aM7 r.heads n
    ·simp [hk, h5]
    ·by_cases h6 : r.heads.length = 4
     ·simp [hk, h5, h6]
     ·have h6' : ¬ ((r.heads.length : Int) = 4) := by omega
      have h6'' : ¬ ((4 : Int) ≤ (r.heads.length : Int)) := by omega
      have hfit : aI7 (r.heads.length + 1) = true := ab7 (by omega)
      simp [hk, h5, h6, h6', h6'', al7, h2, hfit]
  ·simp only [Bool.not_eq_true] at hx
   rw [hr, hx]
   rfl
 ·simp only [Bool.not_eq_true] at hr
  rw [hr]
  rfl
def cnt (m : List Bool) : Nat → Nat
 | 0 => 0
 | k + 1 => cnt m k + (if gg7 m k = true then 1 else 0)
def AS7 (m : List Bool) (c : Commit) : Commit := ⟨c.up.map fun u => (cnt m u.toNat : Int), c.sheet, c.note⟩
def gh7 (m : List Bool) : List Commit → Nat → List Commit
 | [], _ => []
 | x :: l, k => if gg7 m k = true then AS7 m x :: gh7 m l (k + 1) else gh7 m l (k + 1)
def c97 (hs : List Head) (k : Nat) (h : Head) (v : Int) : List Head := hs.set k ⟨h.name, v⟩
def rs7 (r : an7) (n : Str) (s : List Feat) (t : Str) : an7 × Int :=
 if (ba7 r && (aQ7 s && a87 t)) = true then
  (match idx r.heads (aM7 r.heads n) with
  | none => (r, 1)
  | some h => match idx r.commits h.at_ with
   | none => (r, 1)
   | some x => if x.sheet = s then (r, 3) else
    if bk7 r.commits ⟨[h.at_], s, t⟩ < 0 then
     (if r.commits.length = 14 then (r, 2) else (⟨r.commits ++ [⟨[h.at_], s, t⟩], c97 r.heads (aM7 r.heads n).toNat h r.commits.length⟩, 0))
    else (⟨r.commits, c97 r.heads (aM7 r.heads n).toNat h (bk7 r.commits ⟨[h.at_], s, t⟩)⟩, 0))
 else (⟨[], []⟩, 4)
theorem rt7 {r : an7} {n t : Str} {s : List Feat} (hw : be7 r ≤ 1048576) (hs : wL aU7 s ≤ 1048576) (ht : t.size ≤ 1048576) (hst : 2 + (wL aU7 s + t.size) ≤ 4194304) : kd7 r n s t = some (rs7 r n s t) := by
 have hh : r.heads.length ≤ 1048576 := by unfold be7 wL at hw; omega
 have hcw : wL ax7 r.commits ≤ 1048576 := by unfold be7 at hw; omega
 unfold kd7 rs7
 rw [iS7 hw, dv7 hs, eF7 ht, hQ7 hw, cG7 hh]
 simp only [Option.bind_some]
 by_cases hr : ba7 r = true
 ·by_cases h1 : aQ7 s = true
  ·by_cases h2 : a87 t = true
   ·have h14 : r.commits.length ≤ 14 := (do7 hr).1.2
    rw [hr, h1, h2]
    rcases fW7 hr n with h | ⟨k, a, h, g1, g2, _, g4, g5⟩
    ·rw [h]
     rfl
    ·obtain ⟨x, hx⟩ := gJ7 (xs := r.commits) (i := a) g5
     have hwx : ax7 x ≤ 1048576 := by
      have := bA7 (w := ax7) (List.mem_of_getElem? hx)
      unfold wL at hcw
      omega
     have hwxs : wL aU7 x.sheet ≤ 1048576 := by unfold ax7 at hwx; omega
     have hwn : t.size ≤ 6 := by
      unfold a87 at h2
      simp only [Bool.and_eq_true, decide_eq_true_eq] at h2
      exact h2.2.2
     have hws : ax7 ⟨[(a : Int)], s, t⟩ = 1 + (wL aU7 s + (t.size + 0)) := by unfold ax7; simp [wL, gk7, w0]
     have hk : ¬ ((k : Int) < 0) := by omega
     have hclone : ka7 ⟨[(a : Int)], s, t⟩ = some ⟨[(a : Int)], s, t⟩ := by
      unfold ka7
      rw [if_pos (by rfl), eH7 hs]
      rfl
     rw [g1, al7, g2]
     simp only [Bool.not_true, Bool.and_self, if_true, Option.bind_some, g4, al7, hx, l87 hwxs]
     by_cases e : x.sheet = s
     ·simp [e, hk]
     ·have hset : kc7 r (k : Int) ⟨[(a : Int)], s, t⟩ = some (if bk7 r.commits ⟨[(a : Int)], s, t⟩ < 0 then (if r.commits.length = 14 then (false, r) else (true, ⟨r.commits ++ [⟨[(a : Int)], s, t⟩], c97 r.heads k h r.commits.length⟩)) else (true, ⟨r.commits, c97 r.heads k h (bk7 r.commits ⟨[(a : Int)], s, t⟩)⟩)) := by
       unfold kc7
       rw [fS7 hcw]
       simp only [Option.bind_some]
       by_cases f1 : bk7 r.commits ⟨[(a : Int)], s, t⟩ < 0
       ·by_cases f2 : r.commits.length = 14
        ·simp [f1, f2]
        ·have f2' : ¬ ((r.commits.length : Int) = 14) := by omega
         have hfit : aI7 (r.commits.length + 1) = true := ab7 (by omega)
         simp [f1, f2, f2', hclone, al7, g2, hfit, c97]
       ·simp [f1, al7, g2, c97]
      rw [hset]
      by_cases f1 : bk7 r.commits ⟨[(a : Int)], s, t⟩ < 0
      ·by_cases f2 : r.commits.length = 14
       ·simp [e, hk, f1, f2]
       ·simp [e, hk, f1, f2]
      ·simp [e, hk, f1]
   ·simp only [Bool.not_eq_true] at h2
    rw [hr, h1, h2]
    rfl
  ·simp only [Bool.not_eq_true] at h1
   rw [hr, h1]
   rfl
 ·simp only [Bool.not_eq_true] at hr
  rw [hr]
  rfl
theorem o47 {α : Type} {w : α → Nat} : ∀ (xs : List α) (k : Nat) (x y : α), xs[k]? = some x → w y ≤ w x → gk7 w (xs.set k y) ≤ gk7 w xs
 | [], k, x, y, h, _ => by simp at h
 | z :: xs, 0, x, y, h, hw => by
  simp only [List.getElem?_cons_zero, Option.some.injEq] at h
  subst h
  simp only [List.set_cons_zero, gk7]
  omega
 | z :: xs, k + 1, x, y, h, hw => by
  have := o47 xs k x y (by simpa using h) hw
  simp only [List.set_cons_succ, gk7]
  omega
theorem ub7 {hs : List Head} {n : Str} {h : Head} {v : Int} (hh : idx hs (aM7 hs n) = some h) : wL gl7 (c97 hs (aM7 hs n).toNat h v) ≤ wL gl7 hs := by
 have h1 := (aL7 hh).2
 have := o47 (w := gl7) hs _ h ⟨h.name, v⟩ h1 (Nat.le_refl _)
 unfold wL c97
 simp only [List.length_set]
 omega
theorem iW7 {α : Type} {w : α → Nat} : ∀ (a : List α) (x : α), gk7 w (a ++ [x]) = gk7 w a + w x
 | [], x => by simp [gk7]
 | y :: a, x => by simp only [List.cons_append, gk7, iW7 a x]; omega
theorem L07 {r : an7} {n t : Str} {s : List Feat} : be7 (rs7 r n s t).1 ≤ be7 r + (2 + (wL aU7 s + t.size)) := by
 unfold rs7
 split
 ·split
  ·simp only; omega
  ·rename_i h hh
   split
   ·simp only; omega
   ·split
    ·simp only; omega
    ·split
     ·split
      ·simp only; omega
      ·have := ub7 (v := (r.commits.length : Int)) hh
       simp only [be7]
       have e : wL ax7 (r.commits ++ [⟨[h.at_], s, t⟩]) = wL ax7 r.commits + (1 + ax7 ⟨[h.at_], s, t⟩) := by
        unfold wL
        rw [iW7]
        simp
        omega
       have e2 : ax7 ⟨[h.at_], s, t⟩ = 1 + (wL aU7 s + (t.size + 0)) := by unfold ax7; simp [wL, gk7, w0]
       omega
     ·have := ub7 (v := bk7 r.commits ⟨[h.at_], s, t⟩) hh
      simp only [be7]
      omega
 ·have : be7 ⟨[], []⟩ = 0 := rfl
  simp only [this]
  omega
theorem EX7 {a b : Int} (h1 : 0 ≤ a) (h2 : a < 4294967296) (h3 : 0 ≤ b) (h4 : b < 4294967296) : 0 ≤ Fi7 a b := by
 unfold Fi7
 have e : ((BitVec.ofInt 64 a ^^^ BitVec.ofInt 64 b).toNat) < 2 ^ 32 := by
  rw [BitVec.toNat_xor, BitVec.toNat_ofInt, BitVec.toNat_ofInt]
  apply Nat.xor_lt_two_pow
  ·have : (a % ((2 ^ 64 : Nat) : Int)) = a := Int.emod_eq_of_lt h1 (by omega)
   rw [this]
   omega
  ·have : (b % ((2 ^ 64 : Nat) : Int)) = b := Int.emod_eq_of_lt h3 (by omega)
   rw [this]
   omega
 rw [aP7 (by omega) (by omega)]
 omega
theorem o57 {a b : Int} (h : 0 < b) (ha : 0 ≤ a) : ∃ v, yS7 a b = some v ∧ 0 ≤ v ∧ v < b := by
 unfold yS7
 rw [if_pos (by omega)]
 exact ⟨_, rfl, Int.tmod_nonneg b ha, Int.tmod_lt_of_pos a h⟩
theorem P27 {b : List UInt8} {i : Int} (h0 : 0 ≤ i) (h : i < b.length) : ∃ x : UInt8, idx b i = some x := by
 rw [ch7 h0]
 exact gJ7 (by omega)
theorem yh7 {b : List UInt8} {p n : Int} (hb : b.length ≤ 2000) (h0 : 0 ≤ p) (hp : p ≤ 1000000) : ∃ v, bJ7 ⟨b, p⟩ n = some (v, p + 1) ∧ 0 ≤ v ∧ (1 ≤ n → v < n) := by
 unfold bJ7
 simp only
 have e1 : IntKind.i64.wrap (p + 1) = p + 1 := aP7 (by omega) (by omega)
 have e2 : IntKind.i64.wrap (p + 1 - 1) = p := by rw [aP7 (by omega) (by omega)]; omega
 rw [e1, e2]
 by_cases hn : n < 1
 ·rw [if_pos (by simpa using hn)]
  exact ⟨0, rfl, by omega, by omega⟩
 rw [if_neg (by simpa using hn)]
 by_cases hz : b.length = 0
 ·rw [if_pos (by simp [hz])]
  exact ⟨0, rfl, by omega, by omega⟩
 rw [if_neg (by simpa using hz)]
 have hx8 : ∀ x : UInt8, (x.toNat : Int) < 256 := fun x => by have := x.toNat_lt; omega
 by_cases hl : p < b.length
 ·rw [if_pos (by simpa using hl)]
  obtain ⟨x, hx⟩ := P27 h0 hl
  have := hx8 x
  rw [hx, Option.bind_some, aP7 (by omega) (by omega)]
  obtain ⟨v, hv, h1, h2⟩ := o57 (a := (x.toNat : Int)) (b := n) (by omega) (by omega)
  rw [hv]
  exact ⟨v, rfl, h1, fun _ => h2⟩
 rw [if_neg (by simpa using hl)]
 obtain ⟨i, hi, i1, i2⟩ := o57 (a := p) (b := b.length) (by omega) h0
 obtain ⟨x, hx⟩ := P27 i1 i2
 have e3 : IntKind.i64.wrap (IntKind.i64.wrap (p * 7) + 3) = p * 7 + 3 := by rw [aP7 (n := p * 7) (by omega) (by omega), aP7 (by omega) (by omega)]
 obtain ⟨j, hj, j1, j2⟩ := o57 (a := p * 7 + 3) (b := b.length) (by omega) (by omega)
 obtain ⟨y, hy⟩ := P27 j1 j2
 have q1 : 0 ≤ p.tdiv b.length := Int.tdiv_nonneg h0 (by omega)
 have q2 : p.tdiv b.length ≤ p := Int.tdiv_le_self _ h0
 have hq : CD7 p b.length = some (p.tdiv b.length) := by
  unfold CD7
  rw [if_pos (by omega), aP7 (by omega) (by omega)]
 rw [hi, Option.bind_some, hx, Option.bind_some, e3, hj, Option.bind_some, hy, Option.bind_some, hq, Option.bind_some]
 have ux := hx8 x
 have uy := hx8 y
 have wx : 0 ≤ (x.toNat : Int) := by omega
 have wy : 0 ≤ (y.toNat : Int) := by omega
 generalize (x.toNat : Int) = X at ux wx ⊢
 generalize (y.toNat : Int) = Y at uy wy ⊢
 generalize p.tdiv b.length = T at q1 q2 ⊢
 rw [aP7 (n := X) (by omega) (by omega), aP7 (n := Y) (by omega) (by omega), aP7 (n := X * 131) (by omega) (by omega), aP7 (n := Y * 1117) (by omega) (by omega), aP7 (n := X * 131 + Y * 1117) (by omega) (by omega),
  aP7 (n := p * 29) (by omega) (by omega), aP7 (n := X * 131 + Y * 1117 + p * 29) (by omega) (by omega), aP7 (n := T * 53) (by omega) (by omega), aP7 (n := X * 131 + Y * 1117 + p * 29 + T * 53) (by omega) (by omega)]
 have s0 : 0 ≤ X * 131 + Y * 1117 + p * 29 + T * 53 := by omega
 have s1 : X * 131 + Y * 1117 + p * 29 + T * 53 < 4294967296 := by omega
 generalize X * 131 + Y * 1117 + p * 29 + T * 53 = S at s0 s1 ⊢
 have t0 : 0 ≤ S.tdiv 64 := Int.tdiv_nonneg s0 (by omega)
 have t1 : S.tdiv 64 ≤ S := Int.tdiv_le_self _ s0
 rw [aP7 (by omega) (by omega)]
 obtain ⟨v, hv, h1, h2⟩ := o57 (a := Fi7 S (S.tdiv 64)) (b := n) (by omega) (EX7 s0 s1 t0 (by omega))
 rw [hv]
 exact ⟨v, rfl, h1, fun _ => h2⟩
def Drw {α : Type} (g : Rd → Option (α × Int)) (k : Nat) (P : α → Prop) : Prop := ∀ (b : List UInt8) (p : Int), b.length ≤ 2000 → 0 ≤ p → p + k ≤ 100000 → ∃ a p', g ⟨b, p⟩ = some (a, p') ∧ p ≤ p' ∧ p' ≤ p + k ∧ P a
theorem bM7 {n : Int} : Drw (fun r => bJ7 r n) 1 fun v => 0 ≤ v ∧ (1 ≤ n → v < n) := fun b p hb h0 hp => by
 obtain ⟨v, hv, h⟩ := yh7 (n := n) hb h0 (by omega)
 exact ⟨v, p + 1, hv, by omega, by omega, h⟩
theorem ru7 {l : List Str} (hl : l ≠ []) : Drw (fun r => gc7 r l) 1 fun v => v ∈ l := fun b p hb h0 hp => by
 obtain ⟨v, hv, h1, h2⟩ := yh7 (n := (l.length : Int)) hb h0 (by omega)
 have hn : 0 < l.length := List.length_pos_iff.2 hl
 have h3 := h2 (by omega)
 have hx : idx l v = some l[v.toNat] := by rw [ch7 h1]; exact List.getElem?_eq_getElem (by omega)
 exact ⟨l[v.toNat], p + 1, by simp only [gc7, hv, Option.bind_some, hx], by omega, by omega, List.getElem_mem _⟩
theorem rv7 {l : List Int} (hl : l ≠ []) : Drw (fun r => iH7 r l) 1 fun v => v ∈ l := fun b p hb h0 hp => by
 obtain ⟨v, hv, h1, h2⟩ := yh7 (n := (l.length : Int)) hb h0 (by omega)
 have hn : 0 < l.length := List.length_pos_iff.2 hl
 have h3 := h2 (by omega)
 have hx : idx l v = some l[v.toNat] := by rw [ch7 h1]; exact List.getElem?_eq_getElem (by omega)
 exact ⟨l[v.toNat], p + 1, by simp only [iH7, hv, Option.bind_some, hx], by omega, by omega, List.getElem_mem _⟩
theorem sJ7 : Drw hp7 2 fun _ => True := fun b p hb h0 hp => by
 obtain ⟨x, p1, h1, a1, b1, _⟩ := bM7 (n := 4) b p hb h0 (by omega)
 obtain ⟨y, p2, h2, a2, b2, _⟩ := rv7 (l := [0, 1, 2, 5]) (by simp) b p1 hb (by omega) (by omega)
 refine ⟨⟨x, y⟩, p2, ?_, by omega, by omega, trivial⟩
 unfold hp7
 simp only at h1 h2
 simp only [h1, Option.bind_some, h2]
theorem EY7 (a c : Int) : ∃ v, qS7 a c = some v := by
 unfold qS7
 split <;> exact ⟨_, rfl⟩
theorem L17 {p : Bool} {A B : Option Bool} (ha : ∃ q, A = some q) (hb : ∃ q, B = some q) : ∃ q, (if p = true then A else B) = some q := by
 split
 ·exact ha
 ·exact hb
theorem gK7 (q : Int) (a : Rd) (x : Int × Int) (hb : a.b.length ≤ 2000) : ∀ (m n : Nat) (i p : Int) (pts : List Pt), m < n → 0 ≤ i → i + m = 12 → (pts.length : Int) ≤ i → 0 ≤ p → p + 2 * m ≤ 100000 → ∃ p' pts', dH7 q a x n i p pts = some (p', pts') ∧ p ≤ p' ∧ p' ≤ p + 2 * m ∧ pts'.length ≤ 12
 | _, 0, _, _, _, h, _, _, _, _, _ => by omega
 | 0, n + 1, i, p, pts, h, h0, hi, hl, hp, hk => by
  refine ⟨p, pts, ?_, by omega, by omega, by omega⟩
  unfold dH7
  rw [if_neg (by simp; omega)]
 | m + 1, n + 1, i, p, pts, h, h0, hi, hl, hp, hk => by
  unfold dH7
  rw [if_pos (by simp; omega)]
  obtain ⟨w, hw⟩ := EY7 q 6
  rw [hw, Option.bind_some]
  by_cases hlt : (pts.length : Int) < w
  ·rw [if_pos (by simpa using hlt)]
   obtain ⟨t, p1, h1, a1, b1, _⟩ := sJ7 a.b p hb hp (by omega)
   rw [h1, Option.bind_some]
   simp only
   have hq : ∃ z, (if ((pts.length : Int) == 0) = true then (some true) else ((idx pts (IntKind.i64.wrap ((pts.length : Int) - 1))).bind fun x130 => if (!((x130.x == t.x) && ((x130.y == t.y) && true))) = true then (if (x.1 != 3) = true then (some true) else ((idx pts 0).bind fun x132 => some (!((x132.x == t.x) && ((x132.y == t.y) && true))))) else (some false))) = some z := by
    by_cases hz : pts.length = 0
    ·exact ⟨true, by rw [if_pos (by simp [hz])]⟩
    ·rw [if_neg (by simpa using hz)]
     have e : IntKind.i64.wrap ((pts.length : Int) - 1) = ((pts.length - 1 : Nat) : Int) := cd7 (by omega) (by omega)
     obtain ⟨y, hy⟩ := gJ7 (xs := pts) (i := pts.length - 1) (by omega)
     obtain ⟨z, hz0⟩ := gJ7 (xs := pts) (i := 0) (by omega)
     have hz1 : idx pts 0 = some z := by rw [show (0 : Int) = ((0 : Nat) : Int) from rfl, al7]; exact hz0
     rw [e, al7, hy, Option.bind_some]
     refine L17 (L17 ⟨_, rfl⟩ ?_) ⟨_, rfl⟩
     rw [hz1]
     exact ⟨_, rfl⟩
   obtain ⟨z, hz⟩ := hq
   rw [hz, Option.bind_some, aP7 (n := i + 1) (by omega) (by omega)]
   by_cases hzz : z = true
   ·rw [if_pos hzz, if_pos (ab7 (by simp; omega))]
    obtain ⟨p', pts', g1, g2, g3, g4⟩ := gK7 q a x hb m n (i + 1) p1 (pts ++ [t]) (by omega) (by omega) (by omega) (by simp; omega) (by omega) (by omega)
    exact ⟨p', pts', g1, by omega, by omega, g4⟩
   ·rw [if_neg hzz]
    obtain ⟨p', pts', g1, g2, g3, g4⟩ := gK7 q a x hb m n (i + 1) p1 pts (by omega) (by omega) (by omega) (by omega) (by omega) (by omega)
    exact ⟨p', pts', g1, by omega, by omega, g4⟩
  ·rw [if_neg (by simpa using hlt)]
   exact ⟨p, pts, rfl, by omega, by omega, by omega⟩
theorem nT7 : Drw nK7 30 fun s => 1 ≤ s.pts.length ∧ s.pts.length ≤ 12 := fun b p hb h0 hp => by
 obtain ⟨k, p1, h1, a1, b1, hk⟩ := rv7 (l := [1, 2, 2, 3, 3]) (by simp) b p hb h0 (by omega)
 obtain ⟨w, p2, h2, a2, b2, _⟩ := bM7 (n := 4) b p1 hb (by omega) (by omega)
 unfold nK7
 simp only at h1 h2
 simp only [h1, Option.bind_some, h2]
 have hq : ∃ q, (if (k == 1) = true then some 1 else some (IntKind.i64.wrap (k + w)) : Option Int) = some q := by split <;> exact ⟨_, rfl⟩
 obtain ⟨q, hq⟩ := hq
 rw [hq, Option.bind_some]
 obtain ⟨p3, pts, h3, a3, b3, c3⟩ := gK7 q ⟨b, p⟩ (k, p1) hb 12 a47 0 p2 [] (by decide) (by omega) (by omega) (by simp) (by omega) (by omega)
 rw [h3, Option.bind_some]
 simp only
 rw [l77 (by simp; omega), Option.bind_some]
 by_cases hs : f67 ⟨k, pts⟩ = true
 ·rw [hs]
  refine ⟨_, p3, rfl, by omega, by omega, ?_, c3⟩
  simp only [f67, Bool.and_eq_true] at hs
  have h4 := hs.2.2
  simp only
  by_cases e1 : k = 1
  ·rw [if_pos e1] at h4; have := of_decide_eq_true h4; omega
  ·rw [if_neg e1] at h4
   by_cases e2 : k = 2
   ·rw [if_pos e2] at h4; have := of_decide_eq_true h4; omega
   ·rw [if_neg e2] at h4
    by_cases e3 : k = 3
    ·rw [if_pos e3] at h4
     simp only [Bool.and_eq_true, decide_eq_true_eq] at h4
     omega
    ·rw [if_neg e3] at h4
     cases h4
 ·rw [Bool.not_eq_true] at hs
  rw [hs]
  obtain ⟨t, p4, h4, a4, b4, _⟩ := sJ7 b p3 hb (by omega) (by omega)
  simp only [Bool.not_false, if_true, h4, Option.bind_some]
  exact ⟨_, p4, rfl, by omega, by omega, by simp, by simp⟩
theorem iX7 {α : Type} {f : α} {c1 c2 : α → Bool} {gl : List α → Nat → Bool → List α → Option (Bool × List α)} (h0 : ∀ k v w, gl [] k v w = some (v, w))
  (h1 : ∀ x l k v w, gl (x :: l) k v w = ((if (!v) = true then (if c1 x = true then (if aI7 (w ++ [f]).length = true then some (true, (w ++ [f])) else none) else (some (v, w))) else (some (v, w)) : Option (Bool × (List α)))).bind fun q => if c2 x = true then (if aI7 (q.2 ++ [x]).length = true then gl l (k + 1) q.1 (q.2 ++ [x]) else none) else gl l (k + 1) q.1 q.2) :
  ∀ (l : List α) (k : Nat) (v : Bool) (w : List α), w.length + l.length + (if v then 0 else 1) ≤ 1000000 → ∃ d out, gl l k v w = some (d, out) ∧ out.length + (if d then 0 else 1) ≤ w.length + l.length + (if v then 0 else 1) ∧ ∀ y ∈ out, y ∈ w ∨ y ∈ l ∨ y = f
 | [], k, v, w, hl => ⟨v, w, h0 k v w, by simp, fun y hy => .inl hy⟩
 | x :: l, k, v, w, hl => by
  simp only [List.length_cons] at hl
  rw [h1]
  have hq : ∃ v2 w2, ((if (!v) = true then (if c1 x = true then (if aI7 (w ++ [f]).length = true then some (true, (w ++ [f])) else none) else (some (v, w))) else (some (v, w)) : Option (Bool × (List α)))) = some (v2, w2) ∧ w2.length + (if v2 then 0 else 1) ≤ w.length + (if v then 0 else 1) ∧ ∀ y ∈ w2, y ∈ w ∨ y = f := by
   cases v
   ·simp only [Bool.not_false, if_true]
    by_cases hc : c1 x = true
    ·rw [if_pos hc, if_pos (ab7 (by simp; omega))]
     exact ⟨true, w ++ [f], rfl, by simp, fun y hy => by simpa using hy⟩
    ·rw [if_neg hc]
     exact ⟨false, w, rfl, by simp, fun y hy => .inl hy⟩
   ·exact ⟨true, w, rfl, by simp, fun y hy => .inl hy⟩
  obtain ⟨v2, w2, e, q1, q2⟩ := hq
  rw [e, Option.bind_some]
  have hw2 : w2.length ≤ w.length + 1 := by
   cases v <;> cases v2 <;> simp at q1 <;> omega
  by_cases hc : c2 x = true
  ·rw [if_pos hc, if_pos (ab7 (by simp; omega))]
   obtain ⟨d, out, g1, g2, g3⟩ := iX7 h0 h1 l (k + 1) v2 (w2 ++ [x]) (by
    simp only [List.length_append, List.length_singleton]
    omega)
   refine ⟨d, out, g1, ?_, fun y hy => ?_⟩
   ·simp only [List.length_append, List.length_cons, List.length_singleton, List.length_nil] at g2 ⊢
    omega
   ·rcases g3 y hy with h | h | h
    ·rcases List.mem_append.1 h with h | h
     ·rcases q2 y h with h | h <;> simp [h]
     ·simp at h; simp [h]
    ·simp [h]
    ·simp [h]
  ·rw [if_neg hc]
   obtain ⟨d, out, g1, g2, g3⟩ := iX7 h0 h1 l (k + 1) v2 w2 (by omega)
   refine ⟨d, out, g1, ?_, fun y hy => ?_⟩
   ·simp only [List.length_cons] at g2 ⊢
    omega
   ·rcases g3 y hy with h | h | h
    ·rcases q2 y h with h | h <;> simp [h]
    ·simp [h]
    ·simp [h]
theorem sK7 {α : Type} {f : α} {xs : List α} {z : Option (Bool × List α)} (hl : xs.length + 1 ≤ 1048576) (h : ∃ d out, z = some (d, out) ∧ out.length + (if d then 0 else 1) ≤ xs.length + 1 ∧ ∀ y ∈ out, y ∈ xs ∨ y = f) :
  ∃ out, (if aI7 xs.length = true then (z.bind fun q => if (!q.1) = true then (if aI7 (q.2 ++ [f]).length = true then some (q.2 ++ [f]) else none) else some q.2) else none) = some out ∧ out.length ≤ xs.length + 1 ∧ ∀ y ∈ out, y ∈ xs ∨ y = f := by
 obtain ⟨d, out, rfl, h1, h2⟩ := h
 rw [if_pos (ab7 (by omega)), Option.bind_some]
 cases d
 ·simp only [Bool.not_false, if_true]
  simp at h1
  rw [if_pos (ab7 (by simp; omega))]
  exact ⟨_, rfl, by simp; omega, fun y hy => by
   rcases List.mem_append.1 hy with h | h
   ·exact h2 y h
   ·simp at h; exact .inr h⟩
 ·simp at h1
  exact ⟨out, rfl, h1, h2⟩
theorem AT7 {s : List Feat} {f : Feat} (h : s.length ≤ 1000) : ∃ out, f97 s f = some out ∧ out.length ≤ s.length + 1 ∧ ∀ y ∈ out, y ∈ s ∨ y = f := by
 unfold f97
 refine sK7 (by omega) ?_
 obtain ⟨d, out, h1, h2, h3⟩ := iX7 (gl := cz7 f) (f := f) (c1 := fun x => !slt x.id f.id) (c2 := fun x => !seq x.id f.id) (fun _ _ _ => rfl) (fun _ _ _ _ _ => rfl) s 0 false [] (by simp; omega)
 exact ⟨d, out, h1, by simpa using h2, fun y hy => by simpa using h3 y hy⟩
theorem md7 {s : List Feat} {f : Feat} (h : s.length ≤ 1000) : ∃ out, nL7 s f = some out ∧ out.length ≤ s.length + 1 ∧ ∀ y ∈ out, y ∈ s ∨ y = f := by
 unfold nL7
 refine sK7 (by omega) ?_
 obtain ⟨d, out, h1, h2, h3⟩ := iX7 (gl := fL7 f) (f := f) (c1 := fun x => !slt x.id f.id) (c2 := fun x => !seq x.id f.id) (fun _ _ _ => rfl) (fun _ _ _ _ _ => rfl) s 0 false [] (by simp; omega)
 exact ⟨d, out, h1, by simpa using h2, fun y hy => by simpa using h3 y hy⟩
theorem uc7 {s : List Tag} {a b : Str} (h : s.length ≤ 1000) : ∃ out, lJ7 s a b = some out ∧ out.length ≤ s.length + 1 ∧ ∀ y ∈ out, y ∈ s ∨ y = ⟨a, b⟩ := by
 unfold lJ7
 refine sK7 (by omega) ?_
 obtain ⟨d, out, h1, h2, h3⟩ := iX7 (gl := fx7 a b) (f := (⟨a, b⟩ : Tag)) (c1 := fun x => !slt x.key a) (c2 := fun x => !seq x.key a) (fun _ _ _ => rfl) (fun _ _ _ _ _ => rfl) s 0 false [] (by simp; omega)
 exact ⟨d, out, h1, by simpa using h2, fun y hy => by simpa using h3 y hy⟩
def bF (k : Nat) (f : Feat) : Prop := (f.id.size ≤ 7 ∧ f.id.size ≠ 2) ∧ f.shape.pts.length ≤ 20 + k ∧ f.tags.length ≤ 20 + k ∧ ∀ t ∈ f.tags, t.key.size ≤ 7 ∧ t.val.size ≤ 7
def bS (k : Nat) (s : List Feat) : Prop := s.length ≤ 20 + k ∧ ∀ f ∈ s, bF k f
theorem L27 {k : Nat} {f : Feat} (h : bF k f) : bF (k + 1) f := ⟨h.1, by have := h.2.1; omega, by have := h.2.2.1; omega, h.2.2.2⟩
theorem jF7 {α : Type} {w : α → Nat} {n : Nat} : ∀ {xs : List α}, (∀ x ∈ xs, w x ≤ n) → gk7 w xs ≤ n * xs.length
 | [], h => by simp [gk7]
 | x :: xs, h => by
  have h1 := h x (by simp)
  have h2 := jF7 (xs := xs) (n := n) fun y hy => h y (by simp [hy])
  simp only [gk7, List.length_cons, Nat.mul_add, Nat.mul_one]
  omega
theorem QN7 {k : Nat} {f : Feat} (h : bF k f) (hk : k ≤ 4) : aU7 f ≤ 400 := by
 obtain ⟨⟨h1, _⟩, h2, h3, h4⟩ := h
 have := jF7 (w := u07) (n := 14) (xs := f.tags) fun t ht => by have := h4 t ht; unfold u07; omega
 unfold aU7 im7 wL
 rw [tw7]
 omega
theorem QO7 {k : Nat} {s : List Feat} (h : bS k s) (hk : k ≤ 4) : wL aU7 s ≤ 10000 := by
 have h1 := h.1
 have := jF7 (w := aU7) (n := 400) (xs := s) fun f hf => QN7 (h.2 f hf) hk
 unfold wL
 omega
theorem sL7 : Drw lT7 1 fun s => s.size ≤ 7 ∧ s.size ≠ 2 := fun b p hb h0 hp => by
 unfold lT7
 obtain ⟨x, p1, h1, a1, b1, hx⟩ := ru7 (l := _) (List.cons_ne_nil _ _) b p hb h0 hp
 simp only at h1
 rw [h1]
 exact ⟨x, p1, rfl, a1, b1, (by decide : ∀ y ∈ _, y.size ≤ 7 ∧ y.size ≠ 2) x hx⟩
theorem ud7 : Drw nI7 1 fun s => s.size ≤ 7 := fun b p hb h0 hp => by
 unfold nI7
 obtain ⟨x, p1, h1, a1, b1, hx⟩ := ru7 (l := _) (List.cons_ne_nil _ _) b p hb h0 hp
 simp only at h1
 rw [h1]
 exact ⟨x, p1, rfl, a1, b1, (by decide : ∀ y ∈ _, y.size ≤ 7) x hx⟩
theorem ue7 : Drw nJ7 1 fun s => s.size ≤ 7 := fun b p hb h0 hp => by
 unfold nJ7
 obtain ⟨x, p1, h1, a1, b1, hx⟩ := ru7 (l := _) (List.cons_ne_nil _ _) b p hb h0 hp
 simp only at h1
 rw [h1]
 exact ⟨x, p1, rfl, a1, b1, (by decide : ∀ y ∈ _, y.size ≤ 7) x hx⟩
theorem yi7 : Drw qY7 1 fun s => s ∈ [(⟨#[109, 97, 105, 110]⟩ : Str), (⟨#[97, 110, 110]⟩ : Str), (⟨#[98, 111, 98]⟩ : Str)] := fun b p hb h0 hp => by
 unfold qY7
 obtain ⟨x, p1, h1, a1, b1, hx⟩ := ru7 (l := _) (List.cons_ne_nil _ _) b p hb h0 hp
 simp only at h1
 rw [h1]
 exact ⟨x, p1, rfl, a1, b1, hx⟩
abbrev onS : Str := ⟨#[111, 110]⟩
def nt (s : Str) : Prop := s.size ≤ 7 ∧ s ≠ onS
theorem EZ7 {s : Str} (h : (decide (s.size ≤ 7) && !decide (s = onS)) = true) : nt s := by simpa [nt] using h
theorem yj7 : Drw q27 1 fun s => nt s := fun b p hb h0 hp => by
 unfold q27
 obtain ⟨x, p1, h1, a1, b1, hx⟩ := ru7 (l := _) (List.cons_ne_nil _ _) b p hb h0 hp
 simp only at h1
 rw [h1]
 refine ⟨x, p1, rfl, a1, b1, EZ7 ?_⟩
 simp only [List.mem_cons, List.not_mem_nil, or_false] at hx
 rcases hx with rfl | rfl | rfl <;> decide
theorem yk7 : Drw qT7 33 fun s => s.pts.length ≤ 13 := fun b p hb h0 hp => by
 obtain ⟨s, p1, h1, a1, b1, hs1, hs2⟩ := nT7 b p hb h0 (by omega)
 obtain ⟨k, p2, h2, a2, b2, hk1, hk2⟩ := bM7 (n := (s.pts.length : Int)) b p1 hb (by omega) (by omega)
 obtain ⟨c, p3, h3, a3, b3, _⟩ := bM7 (n := 40) b p2 hb (by omega) (by omega)
 have hk2 := hk2 (by omega)
 unfold qT7
 simp only at h2 h3
 simp only [h1, Option.bind_some, h2, h3]
 obtain ⟨y, hy⟩ := gJ7 (xs := s.pts) (i := k.toNat) (by omega)
 have hy' : idx s.pts k = some y := by rw [ch7 hk1]; exact hy
 by_cases c0 : (c == 0) = true
 ·rw [if_pos c0]
  obtain ⟨x, p4, h4, a4, b4, _⟩ := rv7 (l := [0, 4, 1, 2, 3]) (by simp) b p3 hb (by omega) (by omega)
  simp only at h4
  rw [h4]
  exact ⟨_, p4, rfl, by omega, by omega, by simp only; omega⟩
 rw [if_neg c0]
 by_cases c1 : (c == 1) = true
 ·rw [if_pos c1]
  obtain ⟨x, p4, h4, a4, b4, _⟩ := rv7 (l := [1000, 1001, -1001]) (by simp) b p3 hb (by omega) (by omega)
  simp only at h4
  rw [h4, Option.bind_some, hy']
  exact ⟨_, p4, rfl, by omega, by omega, by simp only [List.length_set]; omega⟩
 rw [if_neg c1]
 by_cases c2 : (c == 2) = true
 ·rw [if_pos c2, cd7 (by omega) (by omega), al7]
  obtain ⟨z, hz⟩ := gJ7 (xs := s.pts) (i := s.pts.length - 1) (by omega)
  rw [hz, Option.bind_some, if_pos (ab7 (by simp; omega))]
  exact ⟨_, p3, rfl, by omega, by omega, by simp; omega⟩
 rw [if_neg c2]
 by_cases c3 : (c == 3) = true
 ·rw [if_pos c3]
  unfold slc
  rw [if_pos ⟨by omega, hk1, by omega⟩]
  exact ⟨_, p3, rfl, by omega, by omega, by simp; omega⟩
 rw [if_neg c3]
 exact ⟨_, p3, rfl, by omega, by omega, by omega⟩
def bT (n : Nat) (ts : List Tag) : Prop := ts.length ≤ n ∧ ∀ t ∈ ts, t.key.size ≤ 7 ∧ t.val.size ≤ 7
theorem me7 (a : Rd) (hb : a.b.length ≤ 2000) : ∀ (m n : Nat) (i p : Int) (ts : List Tag) (q : Nat), m < n → i = m → bT q ts → q + m ≤ 100 → 0 ≤ p → p + 2 * m ≤ 100000 → m ≤ 100 → ∃ ts' p', ez7 a n i p ts = some (ts', p') ∧ p ≤ p' ∧ p' ≤ p + 2 * m ∧ bT (q + m) ts'
 | _, 0, _, _, _, _, h, _, _, _, _, _, _ => by omega
 | 0, n + 1, i, p, ts, q, h, hi, ht, hq, hp, hk, hm => by
  unfold ez7
  rw [if_neg (by simp; omega)]
  exact ⟨ts, p, rfl, by omega, by omega, ht⟩
 | m + 1, n + 1, i, p, ts, q, h, hi, ht, hq, hp, hk, hm => by
  unfold ez7
  rw [if_pos (by simp; omega)]
  obtain ⟨k, p1, h1, a1, b1, c1⟩ := ud7 a.b p hb hp (by omega)
  obtain ⟨v, p2, h2, a2, b2, c2⟩ := ue7 a.b p1 hb (by omega) (by omega)
  obtain ⟨o, h3, h4, h5⟩ := uc7 (s := ts) (a := k) (b := v) (by have := ht.1; omega)
  simp only [h1, Option.bind_some, h2, h3]
  rw [aP7 (by omega) (by omega)]
  have ht1 : ts.length ≤ q := ht.1
  have ho : o.length ≤ q + 1 := by omega
  obtain ⟨ts', p', g1, g2, g3, g4⟩ := me7 a hb m n (i - 1) p2 o (q + 1) (by omega) (by omega) ⟨ho, fun t hh => by
   rcases h5 t hh with h | h
   ·exact ht.2 t h
   ·subst h; exact ⟨c1, c2⟩⟩ (by omega) (by omega) (by omega) (by omega)
  exact ⟨ts', p', g1, by omega, by omega, by rw [show q + (m + 1) = q + 1 + m by omega]; exact g4⟩
theorem mf7 {id : Str} (hid : id.size ≤ 7 ∧ id.size ≠ 2) : Drw (fun r => lU7 r id) 40 fun f => (f.id.size ≤ 7 ∧ f.id.size ≠ 2) ∧ f.shape.pts.length ≤ 12 ∧ bT 4 f.tags := fun b p hb h0 hp => by
 obtain ⟨s, p1, h1, a1, b1, hs1, hs2⟩ := nT7 b p hb h0 (by omega)
 obtain ⟨k, p2, h2, a2, b2, hk1, hk2⟩ := bM7 (n := 4) b p1 hb (by omega) (by omega)
 have hk2 := hk2 (by omega)
 simp only [lU7]
 simp only at h2
 simp only [h1, Option.bind_some, h2]
 obtain ⟨ts, p3, h3, a3, b3, c3⟩ := me7 ⟨b, p⟩ hb k.toNat a47 k p2 [] 0 (by unfold a47; omega) (by omega) ⟨by simp, by simp⟩ (by omega) (by omega) (by omega) (by omega)
 rw [h3]
 exact ⟨_, p3, rfl, by omega, by omega, hid, hs2, (show ts.length ≤ 4 by have h := c3.1; have h' : ts.length ≤ 0 + k.toNat := h; omega), c3.2⟩
theorem yl7 : Drw qU7 80 fun f => bF 0 f := fun b p hb h0 hp => by
 obtain ⟨i, p1, h1, a1, b1, hi⟩ := sL7 b p hb h0 (by omega)
 obtain ⟨f, p2, h2, a2, b2, f1, f2, f3, f4⟩ := mf7 hi b p1 hb (by omega) (by omega)
 obtain ⟨c, p3, h3, a3, b3, _⟩ := bM7 (n := 40) b p2 hb (by omega) (by omega)
 unfold qU7
 simp only at h2 h3
 simp only [h1, Option.bind_some, h2, h3]
 by_cases c0 : (c == 0) = true
 ·rw [if_pos c0]
  obtain ⟨x, p4, h4, a4, b4, hx⟩ := ru7 (l := [(⟨#[]⟩ : Str), (⟨#[65]⟩ : Str), (⟨#[97, 98, 99, 100, 101, 102, 103]⟩ : Str)]) (by simp) b p3 hb (by omega) (by omega)
  simp only at h4
  rw [h4]
  exact ⟨_, p4, rfl, by omega, by omega, (by decide : ∀ y ∈ [(⟨#[]⟩ : Str), (⟨#[65]⟩ : Str), (⟨#[97, 98, 99, 100, 101, 102, 103]⟩ : Str)], y.size ≤ 7 ∧ y.size ≠ 2) x hx, by simp only; omega, by simp only; omega, f4⟩
 rw [if_neg c0]
 by_cases c1 : (c == 1) = true
 ·rw [if_pos c1]
  obtain ⟨x, p4, h4, a4, b4, hx⟩ := yk7 b p3 hb (by omega) (by omega)
  rw [h4]
  exact ⟨_, p4, rfl, by omega, by omega, f1, by simp only; omega, by simp only; omega, f4⟩
 rw [if_neg c1]
 by_cases c2 : (c == 2) = true
 ·rw [if_pos c2, if_pos (ab7 (by simp; omega))]
  refine ⟨_, p3, rfl, by omega, by omega, f1, by simp only; omega, by simp; omega, fun t ht => ?_⟩
  rcases List.mem_append.1 ht with h | h
  ·exact f4 t h
  ·simp only [List.mem_singleton] at h; subst h; exact ⟨by decide, by decide⟩
 rw [if_neg c2]
 by_cases c3 : (c == 3) = true
 ·rw [if_pos c3]
  obtain ⟨x, p4, h4, a4, b4, hx⟩ := ru7 (l := [(⟨#[]⟩ : Str), (⟨#[66]⟩ : Str)]) (by simp) b p3 hb (by omega) (by omega)
  simp only at h4
  rw [h4, Option.bind_some, if_pos (ab7 (by simp; omega))]
  refine ⟨_, p4, rfl, by omega, by omega, f1, by simp only; omega, by simp; omega, fun t ht => ?_⟩
  rcases List.mem_append.1 ht with h | h
  ·exact f4 t h
  ·simp only [List.mem_singleton] at h; subst h; exact ⟨(by decide : (⟨#[122, 122]⟩ : Str).size ≤ 7), (by decide : ∀ y ∈ [(⟨#[]⟩ : Str), (⟨#[66]⟩ : Str)], y.size ≤ 7) x hx⟩
 rw [if_neg c3]
 exact ⟨_, p3, rfl, by omega, by omega, f1, by simp only; omega, by simp only; omega, f4⟩
theorem kl7 (a : Rd) (hb : a.b.length ≤ 2000) : ∀ (m n : Nat) (i p : Int) (s : List Feat), m < n → i = m → (s.length + m ≤ 20 ∧ ∀ f ∈ s, bF 0 f) → 0 ≤ p → p + 41 * m ≤ 100000 → ∃ s' p', eA7 a n i p s = some (s', p') ∧ p ≤ p' ∧ p' ≤ p + 41 * m ∧ s'.length ≤ s.length + m ∧ ∀ f ∈ s', bF 0 f
 | _, 0, _, _, _, h, _, _, _, _ => by omega
 | 0, n + 1, i, p, s, h, hi, hs, hp, hk => by
  unfold eA7
  rw [if_neg (by simp; omega)]
  exact ⟨s, p, rfl, by omega, by omega, by omega, hs.2⟩
 | m + 1, n + 1, i, p, s, h, hi, hs, hp, hk => by
  unfold eA7
  rw [if_pos (by simp; omega)]
  obtain ⟨k, p1, h1, a1, b1, c1⟩ := sL7 a.b p hb hp (by omega)
  obtain ⟨f, p2, h2, a2, b2, f1, f2, f3, f4⟩ := mf7 c1 a.b p1 hb (by omega) (by omega)
  have hs1 := hs.1
  obtain ⟨o, h3, h4, h5⟩ := md7 (s := s) (f := f) (by omega)
  simp only at h2
  simp only [h1, Option.bind_some, h2, h3]
  rw [aP7 (by omega) (by omega)]
  obtain ⟨s', p', g1, g2, g3, g4, g5⟩ := kl7 a hb m n (i - 1) p2 o (by omega) (by omega) ⟨by omega, fun t hh => by
   rcases h5 t hh with h | h
   ·exact hs.2 t h
   ·subst h; exact ⟨f1, by omega, by omega, f4⟩⟩ (by omega) (by omega)
  exact ⟨s', p', g1, by omega, by omega, by omega, g5⟩
theorem nU7 : Drw nM7 170 fun s => s.length ≤ 4 ∧ ∀ f ∈ s, bF 0 f := fun b p hb h0 hp => by
 obtain ⟨k, p2, h2, a2, b2, hk1, hk2⟩ := bM7 (n := 5) b p hb (by omega) (by omega)
 have hk2 := hk2 (by omega)
 unfold nM7
 simp only at h2
 simp only [h2, Option.bind_some]
 obtain ⟨s, p3, h3, a3, b3, c3, d3⟩ := kl7 ⟨b, p⟩ hb k.toNat a47 k p2 [] (by unfold a47; omega) (by omega) ⟨by simp; omega, by simp⟩ (by omega) (by omega)
 rw [h3]
 simp only [List.length_nil] at c3
 exact ⟨s, p3, rfl, by omega, by omega, by omega, d3⟩
theorem mg7 : ∀ (m n : Nat) (i : Int) (s : List Feat), m < n → 0 ≤ i → i + m = 9 → (s.length + m ≤ 20 ∧ ∀ f ∈ s, bF 0 f) → ∃ s', eB7 n i s = some s' ∧ s'.length ≤ s.length + m ∧ ∀ f ∈ s', bF 0 f
 | _, 0, _, _, h, _, _, _ => by omega
 | 0, n + 1, i, s, h, h0, hi, hs => by
  unfold eB7
  rw [if_neg (by simp; omega)]
  exact ⟨s, rfl, by omega, hs.2⟩
 | m + 1, n + 1, i, s, h, h0, hi, hs => by
  unfold eB7
  rw [if_pos (by simp; omega), aP7 (by omega) (by omega)]
  have hs1 := hs.1
  have hz : (⟨#[113, 114, 115, 116, 117, 118, 119, 120, 121, 122]⟩ : Str).size = 10 := by decide
  have hx : ∃ x : Str, CC7 (⟨#[113, 114, 115, 116, 117, 118, 119, 120, 121, 122]⟩ : Str) i (i + 1) = some x ∧ x.size ≤ 7 ∧ x.size ≠ 2 := by
   unfold CC7
   rw [if_pos ⟨h0, by omega, by rw [hz]; omega⟩]
   refine ⟨_, rfl, ?_⟩
   rw [ByteArray.size_extract, hz]
   omega
  obtain ⟨x, hx1, hx2⟩ := hx
  obtain ⟨o, h3, h4, h5⟩ := md7 (s := s) (f := ⟨x, ⟨1, [⟨0, 0⟩]⟩, []⟩) (by omega)
  rw [hx1, Option.bind_some, h3, Option.bind_some]
  obtain ⟨s', g1, g2, g3⟩ := mg7 m n (i + 1) o (by omega) (by omega) (by omega) ⟨by omega, fun t hh => by
   rcases h5 t hh with h | h
   ·exact hs.2 t h
   ·subst h; exact ⟨hx2, by simp, by simp, by simp⟩⟩
  exact ⟨s', g1, by omega, g3⟩
theorem ym7 : Drw qV7 260 fun s => bS 0 s := fun b p hb h0 hp => by
 obtain ⟨s, p1, h1, a1, b1, hs1, hs2⟩ := nU7 b p hb h0 (by omega)
 obtain ⟨c, p2, h2, a2, b2, _⟩ := bM7 (n := 40) b p1 hb (by omega) (by omega)
 unfold qV7
 simp only at h2
 simp only [h1, Option.bind_some, h2]
 by_cases c0 : (c == 0) = true
 ·rw [if_pos c0]
  obtain ⟨f, p3, h3, a3, b3, hf⟩ := yl7 b p2 hb (by omega) (by omega)
  rw [h3, Option.bind_some, if_pos (ab7 (by simp; omega))]
  refine ⟨_, p3, rfl, by omega, by omega, by simp; omega, fun t ht => ?_⟩
  rcases List.mem_append.1 ht with h | h
  ·exact hs2 t h
  ·simp only [List.mem_singleton] at h; subst h; exact hf
 rw [if_neg c0]
 by_cases c1 : (c == 1) = true
 ·rw [if_pos c1, if_pos (ab7 (by simp; omega))]
  exact ⟨_, p2, rfl, by omega, by omega, by simp; omega, fun t ht => by rcases List.mem_append.1 ht with h | h <;> exact hs2 t h⟩
 rw [if_neg c1]
 by_cases c2 : (c == 2) = true
 ·rw [if_pos c2]
  obtain ⟨s', g1, g2, g3⟩ := mg7 9 a47 0 s (by decide) (by omega) (by omega) ⟨by omega, hs2⟩
  rw [g1]
  exact ⟨s', p2, rfl, by omega, by omega, by omega, g3⟩
 rw [if_neg c2]
 exact ⟨s, p2, rfl, by omega, by omega, by omega, hs2⟩
theorem AU7 {s : aS7} {k : Nat} (hs : s.pts.length ≤ 20 + k) (hk : k ≤ 4) : Drw (fun r => q07 r s) 4 fun z => z.pts.length ≤ 20 + (k + 1) := fun b p hb h0 hp => by
 simp only [q07]
 by_cases hz : s.pts.length = 0
 ·rw [if_pos (by simp [hz])]
  exact ⟨s, p, rfl, by omega, by omega, by omega⟩
 rw [if_neg (by simpa using hz)]
 obtain ⟨x, p1, h1, a1, b1, hx1, hx2⟩ := bM7 (n := (s.pts.length : Int)) b p hb h0 (by omega)
 have hx2 := hx2 (by omega)
 obtain ⟨c, p2, h2, a2, b2, _⟩ := bM7 (n := 3) b p1 hb (by omega) (by omega)
 obtain ⟨t, p3, h3, a3, b3, _⟩ := sJ7 b p2 hb (by omega) (by omega)
 simp only at h1 h2
 have e1 : slc s.pts 0 x = some (s.pts.take x.toNat) := by
  unfold slc
  rw [if_pos ⟨by omega, hx1, by omega⟩]
  simp
 have e2 : slc s.pts x (s.pts.length : Int) = some (s.pts.drop x.toNat) := by
  unfold slc
  rw [if_pos ⟨hx1, by omega, by omega⟩]
  simp
 have e3 : slc s.pts (x + 1) (s.pts.length : Int) = some (s.pts.drop (x.toNat + 1)) := by
  unfold slc
  rw [if_pos ⟨by omega, by omega, by omega⟩]
  have : (x + 1).toNat = x.toNat + 1 := by omega
  simp [this]
 rw [h1, Option.bind_some, e1, Option.bind_some, if_pos (ab7 (by simp; omega)), h2, Option.bind_some]
 have key : ∃ q p4, (if (c == 0) = true then ((hp7 (⟨b, p2⟩ : Rd)).bind fun x43 => if aI7 (([] ++ s.pts.take x.toNat) ++ ([x43.1] : (List Pt))).length = true then (slc s.pts x (s.pts.length : Int)).bind fun x49 => if aI7 ((([] ++ s.pts.take x.toNat) ++ ([x43.1] : (List Pt))) ++ x49).length = true then some (((([] ++ s.pts.take x.toNat) ++ ([x43.1] : (List Pt))) ++ x49), x43.2) else none else none) else (if (c == 1) = true then ((slc s.pts (IntKind.i64.wrap (x + 1)) (s.pts.length : Int)).bind fun x54 => if aI7 (([] ++ s.pts.take x.toNat) ++ x54).length = true then some ((([] ++ s.pts.take x.toNat) ++ x54), p2) else none) else ((hp7 (⟨b, p2⟩ : Rd)).bind fun x59 => if aI7 (([] ++ s.pts.take x.toNat) ++ ([x59.1] : (List Pt))).length = true then (slc s.pts (IntKind.i64.wrap (x + 1)) (s.pts.length : Int)).bind fun x65 => if aI7 ((([] ++ s.pts.take x.toNat) ++ ([x59.1] : (List Pt))) ++ x65).length = true then some (((([] ++ s.pts.take x.toNat) ++ ([x59.1] : (List Pt))) ++ x65), x59.2) else none else none)) : Option ((List Pt) × Int)) = some (q, p4) ∧ q.length ≤ s.pts.length + 1 ∧ p2 ≤ p4 ∧ p4 ≤ p2 + 2 := by
  rw [aP7 (n := x + 1) (by omega) (by omega)]
  split
  ·rw [h3, Option.bind_some, if_pos (ab7 (by simp; omega)), e2, Option.bind_some, if_pos (ab7 (by simp; omega))]
   exact ⟨_, _, rfl, by simp; omega, a3, b3⟩
  ·split
   ·rw [e3, Option.bind_some, if_pos (ab7 (by simp; omega))]
    exact ⟨_, _, rfl, by simp; omega, by omega, by omega⟩
   ·rw [h3, Option.bind_some, if_pos (ab7 (by simp; omega)), e3, Option.bind_some, if_pos (ab7 (by simp; omega))]
    exact ⟨_, _, rfl, by simp; omega, a3, b3⟩
 obtain ⟨q, p4, g1, g2, g3, g4⟩ := key
 rw [g1, Option.bind_some, l77 (by simp only; omega), Option.bind_some]
 by_cases ho : (!f67 ⟨s.kind, q⟩) = true
 ·rw [if_pos ho]
  exact ⟨s, p4, rfl, by omega, by omega, by omega⟩
 ·rw [if_neg ho]
  exact ⟨⟨s.kind, q⟩, p4, rfl, by omega, by omega, by simp only; omega⟩
theorem Mw7 {α : Type} {p : α → Nat → Bool} {l : List α} {k : Nat} (h : aZ7 p l k = true) {x : α} (hx : x ∈ l) : ∃ j, p x j = true := by
 obtain ⟨j, hj⟩ := List.getElem?_of_mem hx
 exact ⟨_, cf7 h j x hj⟩
theorem dQ7 {s : Str} (h : a87 s = true) : s.size ≤ 7 := by
 simp only [a87, Bool.and_eq_true, decide_eq_true_eq] at h
 omega
theorem yn7 {s : List Feat} (hn : ∀ f ∈ s, f.id.size ≠ 2) (h : aQ7 s = true) : bS 0 s := by
 simp only [aQ7, Bool.and_eq_true, decide_eq_true_eq] at h
 refine ⟨by omega, fun f hf => ?_⟩
 obtain ⟨j, hj⟩ := Mw7 h.1 hf
 simp only [Bool.and_eq_true] at hj
 have h1 := hj.1
 simp only [cp7, f67, si7, Bool.and_eq_true, decide_eq_true_eq] at h1
 refine ⟨⟨dQ7 h1.1, hn f hf⟩, by omega, by omega, fun t ht => ?_⟩
 obtain ⟨i, hi⟩ := Mw7 h1.2.2.1 ht
 simp only [Bool.and_eq_true] at hi
 exact ⟨dQ7 hi.1, dQ7 hi.2.1⟩
theorem o67 {c : Feat → Bool} {gl : List Feat → Nat → List Feat → Option (List Feat)} (h0 : ∀ k v, gl [] k v = some v) (h1 : ∀ x l k v, gl (x :: l) k v = if c x = true then (if aI7 (v ++ [x]).length = true then gl l (k + 1) (v ++ [x]) else none) else gl l (k + 1) v) : ∀ (l : List Feat) (k : Nat) (v : List Feat), v.length + l.length ≤ 1000 → ∃ o, gl l k v = some o ∧ o.length ≤ v.length + l.length ∧ ∀ y ∈ o, y ∈ v ∨ y ∈ l
 | [], k, v, hl => ⟨v, h0 k v, by simp, fun y hy => .inl hy⟩
 | x :: l, k, v, hl => by
  simp only [List.length_cons] at hl
  rw [h1]
  by_cases hc : c x = true
  ·rw [if_pos hc, if_pos (ab7 (by simp; omega))]
   obtain ⟨o, g1, g2, g3⟩ := o67 h0 h1 l (k + 1) (v ++ [x]) (by simp; omega)
   refine ⟨o, g1, by simp only [List.length_append, List.length_cons, List.length_nil] at g2 ⊢; omega, fun y hy => ?_⟩
   rcases g3 y hy with h | h
   ·rcases List.mem_append.1 h with h | h
    ·exact .inl h
    ·simp at h; simp [h]
   ·simp [h]
  ·rw [if_neg hc]
   obtain ⟨o, g1, g2, g3⟩ := o67 h0 h1 l (k + 1) v (by omega)
   exact ⟨o, g1, by simp only [List.length_cons]; omega, fun y hy => (g3 y hy).imp id fun h => by simp [h]⟩
theorem AV7 {s : List Feat} {id : Str} (h : s.length ≤ 1000) : ∃ o, qZ7 s id = some o ∧ o.length ≤ s.length ∧ ∀ y ∈ o, y ∈ s := by
 unfold qZ7
 rw [if_pos (ab7 (by omega))]
 obtain ⟨o, h1, h2, h3⟩ := o67 (gl := fM7 id) (c := fun x => !seq x.id id) (fun _ _ => rfl) (fun _ _ _ _ => rfl) s 0 [] (by simp; omega)
 rw [h1]
 exact ⟨o, rfl, by simpa using h2, fun y hy => by simpa using h3 y hy⟩
theorem iY7 {α : Type} {p : α → Bool} : ∀ {l : List α} {k : Nat}, az7 p l k = -1 ∨ (k : Int) ≤ az7 p l k ∧ az7 p l k < (k + l.length : Nat)
 | [], k => .inl rfl
 | x :: l, k => by
  simp only [az7]
  split
  ·exact .inr ⟨by omega, by simp only [List.length_cons]; omega⟩
  ·rcases iY7 (p := p) (l := l) (k := k + 1) with h | h
   ·exact .inl h
   ·exact .inr ⟨by omega, by simp only [List.length_cons]; omega⟩
theorem yo7 {s : List Feat} {id : Str} (h : s.length ≤ 1000) : ∃ v, j87 s id = some v ∧ (v < 0 ∨ 0 ≤ v ∧ v < s.length) := by
 unfold j87
 rw [if_pos (ab7 (by omega))]
 refine ⟨_, ow7 (gl := em7 id) (p := fun x => seq x.id id) (ok := fun _ => True) (fun _ => rfl) (fun _ _ _ _ => rfl) s 0 (fun _ _ => trivial), ?_⟩
 rcases iY7 (p := fun x : Feat => seq x.id id) (l := s) (k := 0) with h | h
 ·left; omega
 ·right; simpa using h
theorem hR7 (a : Rd) (hb : a.b.length ≤ 2000) : ∀ (m n : Nat) (s : List Feat) (i p : Int) (k : Nat), m < n → i = m → bS k s → k + m ≤ 3 → 0 ≤ p → p + 50 * m ≤ 100000 → ∃ s' p', cA7 a n s i p = some (s', p') ∧ p ≤ p' ∧ p' ≤ p + 50 * m ∧ bS (k + m) s'
 | _, 0, _, _, _, _, h, _, _, _, _, _ => by omega
 | 0, n + 1, s, i, p, k, h, hi, hs, hk, hp, hq => by
  unfold cA7
  rw [if_neg (by simp; omega)]
  exact ⟨s, p, rfl, by omega, by omega, hs⟩
 | m + 1, n + 1, s, i, p, k, h, hi, hs, hk, hp, hq => by
  unfold cA7
  rw [if_pos (by simp; omega), aP7 (n := i - 1) (by omega) (by omega)]
  have hs1 : s.length ≤ 20 + k := hs.1
  have step : ∀ (f : Feat) (p1 : Int), bF (k + 1) f → p ≤ p1 → p1 ≤ p + 50 → ∃ o s' p', f97 s f = some o ∧ cA7 a n o (i - 1) p1 = some (s', p') ∧ p ≤ p' ∧ p' ≤ p + 50 * (m + 1) ∧ bS (k + (m + 1)) s' := fun f p1 hf q1 q2 => by
   obtain ⟨o, o1, o2, o3⟩ := AT7 (s := s) (f := f) (by omega)
   obtain ⟨s', p', g1, g2, g3, g4⟩ := hR7 a hb m n o (i - 1) p1 (k + 1) (by omega) (by omega) ⟨by omega, fun t ht => by
    rcases o3 t ht with h | h
    ·exact L27 (hs.2 t h)
    ·subst h; exact hf⟩ (by omega) (by omega) (by omega)
   exact ⟨o, s', p', o1, g1, by omega, by omega, by rw [show k + (m + 1) = k + 1 + m by omega]; exact g4⟩
  obtain ⟨id, p1, h1, a1, b1, c1⟩ := sL7 a.b p hb hp (by omega)
  obtain ⟨v, h2, hv⟩ := yo7 (s := s) (id := id) (by omega)
  rw [h1, Option.bind_some]
  simp only
  rw [h2, Option.bind_some]
  by_cases hneg : v < 0
  ·rw [if_pos (by simpa using hneg)]
   obtain ⟨f, p2, h3, a3, b3, f1, f2, f3, f4⟩ := mf7 c1 a.b p1 hb (by omega) (by omega)
   simp only at h3
   obtain ⟨o, s', p', e1, e2, e3, e4, e5⟩ := step f p2 ⟨f1, by omega, by omega, f4⟩ (by omega) (by omega)
   simp only [h3, Option.bind_some, e1]
   exact ⟨s', p', e2, e3, by omega, e5⟩
  ·rw [if_neg (by simpa using hneg)]
   have hv := hv.resolve_left hneg
   obtain ⟨c, p2, h3, a3, b3, _⟩ := bM7 (n := 4) a.b p1 hb (by omega) (by omega)
   simp only at h3
   rw [h3, Option.bind_some]
   simp only
   obtain ⟨f, hf⟩ := gJ7 (xs := s) (i := v.toNat) (by omega)
   have hf' : idx s v = some f := by rw [ch7 hv.1]; exact hf
   have hbf := hs.2 f (List.mem_of_getElem? hf)
   by_cases c0 : (c == 0) = true
   ·rw [if_pos c0]
    obtain ⟨o, o1, o2, o3⟩ := AV7 (s := s) (id := id) (by omega)
    rw [o1, Option.bind_some]
    obtain ⟨s', p', g1, g2, g3, g4⟩ := hR7 a hb m n o (i - 1) p2 (k + 1) (by omega) (by omega) ⟨by omega, fun t ht => L27 (hs.2 t (o3 t ht))⟩ (by omega) (by omega) (by omega)
    exact ⟨s', p', g1, by omega, by omega, by rw [show k + (m + 1) = k + 1 + m by omega]; exact g4⟩
   rw [if_neg c0]
   obtain ⟨c2, p3, h4, a4, b4, _⟩ := bM7 (n := 2) a.b p2 hb (by omega) (by omega)
   simp only at h4
   rw [h4, Option.bind_some]
   simp only
   have hcp : hk7 f = some f := o17 (by have := QN7 hbf (by omega); omega)
   by_cases c1' : (c2 == 0) = true
   ·rw [if_pos c1']
    obtain ⟨x, p4, h5, a5, b5, x1⟩ := ud7 a.b p3 hb (by omega) (by omega)
    obtain ⟨y, p5, h6, a6, b6, y1⟩ := ue7 a.b p4 hb (by omega) (by omega)
    obtain ⟨ts, t1, t2, t3⟩ := uc7 (s := f.tags) (a := x) (b := y) (by have := hbf.2.2.1; omega)
    obtain ⟨o, s', p', e1, e2, e3, e4, e5⟩ := step ⟨f.id, f.shape, ts⟩ p5 ⟨hbf.1, by have := hbf.2.1; simp only; omega, by have := hbf.2.2.1; simp only; omega, fun t ht => by
     rcases t3 t ht with h | h
     ·exact hbf.2.2.2 t h
     ·subst h; exact ⟨x1, y1⟩⟩ (by omega) (by omega)
    simp only [hf', Option.bind_some, hcp, h5, h6, t1, e1]
    exact ⟨s', p', e2, e3, by omega, e5⟩
   ·rw [if_neg c1']
    obtain ⟨z, p4, h5, a5, b5, z1⟩ := AU7 (s := f.shape) (k := k) hbf.2.1 (by omega) a.b p3 hb (by omega) (by omega)
    simp only at h5
    obtain ⟨o, s', p', e1, e2, e3, e4, e5⟩ := step ⟨f.id, z, f.tags⟩ p4 ⟨hbf.1, z1, by have := hbf.2.2.1; simp only; omega, hbf.2.2.2⟩ (by omega) (by omega)
    simp only [hf', Option.bind_some, hcp]
    rw [h5]
    simp only [Option.bind_some, e1]
    exact ⟨s', p', e2, e3, by omega, e5⟩
theorem yp7 {s : List Feat} (hs : bS 0 s) : Drw (fun r => q17 r s) 151 fun o => bS 0 o := fun b p hb h0 hp => by
 obtain ⟨c, p1, h1, a1, b1, c1, c2⟩ := bM7 (n := 3) b p hb h0 (by omega)
 have c2 := c2 (by omega)
 simp only [q17]
 simp only at h1
 rw [h1, Option.bind_some]
 simp only
 rw [aP7 (by omega) (by omega)]
 obtain ⟨o, p2, h2, a2, b2, d2⟩ := hR7 ⟨b, p⟩ hb (1 + c).toNat a47 s (1 + c) p1 0 (by unfold a47; omega) (by omega) hs (by omega) (by omega) (by omega)
 have hw : bS 3 o := by
  have h3 : o.length ≤ 20 + (0 + (1 + c).toNat) := d2.1
  exact ⟨by omega, fun f hf => by
   obtain ⟨q1, q2, q3, q4⟩ := d2.2 f hf
   exact ⟨q1, by omega, by omega, q4⟩⟩
 rw [h2, Option.bind_some, e57 (by have := QO7 hw (by omega); simp only; omega), Option.bind_some]
 by_cases ho : aQ7 o = true
 ·simp only [ho]
  exact ⟨o, p2, rfl, by omega, by omega, yn7 (fun f hf => (d2.2 f hf).1.2) ho⟩
 ·rw [Bool.not_eq_true] at ho
  simp only [ho]
  exact ⟨s, p2, rfl, by omega, by omega, hs⟩
def nm3 : List Str := [(⟨#[109, 97, 105, 110]⟩ : Str), (⟨#[97, 110, 110]⟩ : Str), (⟨#[98, 111, 98]⟩ : Str)]
theorem uf7 {s : Str} (h : s ∈ nm3) : s.size ≤ 7 := (by decide : ∀ y ∈ nm3, y.size ≤ 7) s h
def bC0 (c : Commit) : Prop := c.up.length ≤ 3 ∧ bS 0 c.sheet ∧ c.note.size ≤ 7
def bC (c : Commit) : Prop := c.up.length ≤ 3 ∧ bS 0 c.sheet ∧ nt c.note
def bR (r : an7) : Prop := (1 ≤ r.commits.length ∧ r.commits.length ≤ 12) ∧ (1 ≤ r.heads.length ∧ r.heads.length ≤ 5) ∧ (∀ c ∈ r.commits, bC c) ∧ ∀ h ∈ r.heads, h.name ∈ nm3
def gR (r : an7) : Prop := bR r ∧ r.heads.length ≤ 4 ∧ (∀ h ∈ r.heads, 0 ≤ h.at_ ∧ h.at_ < (r.commits.length : Int)) ∧ ∀ c ∈ r.commits, c.up.length ≤ 2
theorem P37 {c : Commit} (h : bC0 c) : ax7 c ≤ 10020 := by
 obtain ⟨h1, h2, h3⟩ := h
 have := QO7 h2 (by omega)
 unfold ax7
 simp only [wL, tw7] at this ⊢
 omega
theorem QP7 {c : Commit} (h : bC c) : ax7 c ≤ 10020 := P37 ⟨h.1, h.2.1, h.2.2.1⟩
theorem P47 {r : an7} (h : bR r) : be7 r ≤ 200000 := by
 obtain ⟨h1, h2, h3, h4⟩ := h
 have e1 := jF7 (w := ax7) (n := 10020) (xs := r.commits) fun c hc => QP7 (h3 c hc)
 have e2 := jF7 (w := gl7) (n := 7) (xs := r.heads) fun c hc => by have := uf7 (h4 c hc); unfold gl7; omega
 unfold be7 wL
 omega
theorem AW7 {x : an7} {k : Int} {c : Commit} (hx : gR x) (hk0 : 0 ≤ k) (hk : k < x.heads.length) (hc : bC c) (hc2 : c.up.length ≤ 2) (hl : x.commits.length < 12) : ∃ y, ix7 x k c = some y ∧ gR y := by
 have hw := P47 hx.1
 obtain ⟨⟨⟨g1, g2⟩, ⟨g3, g4⟩, g5, g6⟩, g7, g8, g9⟩ := hx
 unfold ix7
 rw [kL7 (by unfold be7 at hw; omega), Option.bind_some]
 obtain ⟨h, hh⟩ := gJ7 (xs := x.heads) (i := k.toNat) (by omega)
 have hh' : idx x.heads k = some h := by rw [ch7 hk0]; exact hh
 have hn := g6 h (List.mem_of_getElem? hh)
 have set_ok : ∀ (m : Int) (z : Head), z ∈ x.heads.set k.toNat ⟨h.name, m⟩ → z ∈ x.heads ∨ z = ⟨h.name, m⟩ := fun m z hz => List.mem_or_eq_of_mem_set hz
 rcases iY7 (p := fun y : Commit => decide (y = c)) (l := x.commits) (k := 0) with hf | hf
 ·have e : bk7 x.commits c = -1 := hf
  rw [e, if_pos (by decide), yg7 (by have := QP7 hc; omega), Option.bind_some, if_pos (ab7 (by simp; omega)), hh', Option.bind_some]
  refine ⟨_, rfl, ⟨⟨by simp, by simp; omega⟩, ⟨by simp; omega, by simp; omega⟩, fun d hd => ?_, fun z hz => ?_⟩, by simp; omega, fun z hz => ?_, fun d hd => by
   rcases List.mem_append.1 hd with h | h
   ·exact g9 d h
   ·simp only [List.mem_singleton] at h; subst h; exact hc2⟩
  ·rcases List.mem_append.1 hd with h | h
   ·exact g5 d h
   ·simp only [List.mem_singleton] at h; subst h; exact hc
  ·rcases set_ok _ z hz with h | h
   ·exact g6 z h
   ·subst h; exact hn
  ·rcases set_ok _ z hz with h | h
   ·have := g8 z h; simp only [List.length_append, List.length_singleton]; omega
   ·subst h; simp only [List.length_append, List.length_singleton]; omega
 ·have e : bk7 x.commits c = az7 (fun y : Commit => decide (y = c)) x.commits 0 := rfl
  rw [← e] at hf
  rw [if_neg (by simp; omega), hh', Option.bind_some]
  refine ⟨_, rfl, ⟨⟨g1, g2⟩, ⟨by simp; omega, by simp; omega⟩, g5, fun z hz => ?_⟩, by simp; omega, fun z hz => ?_, g9⟩
  ·rcases set_ok _ z hz with h | h
   ·exact g6 z h
   ·subst h; exact hn
  ·rcases set_ok _ z hz with h | h
   ·exact g8 z h
   ·subst h; simp only; omega
theorem hS7 {hs : List Head} {n : Str} : aM7 hs n < 0 ∨ 0 ≤ aM7 hs n ∧ aM7 hs n < hs.length := by
 rcases iY7 (p := fun y : Head => decide (y.name = n)) (l := hs) (k := 0) with h | h
 ·left
  have e : aM7 hs n = -1 := h
  omega
 ·right
  have e : aM7 hs n = az7 (fun y : Head => decide (y.name = n)) hs 0 := rfl
  rw [← e] at h
  simpa using h
theorem yq7 {r : an7} {n f : Str} (h : gR r) (hn : n ∈ nm3) (hl : 0 < (eP7 r n f).1.heads.length) : gR (eP7 r n f).1 := by
 unfold eP7 at hl ⊢
 split
 ·rename_i h0
  rw [if_pos h0] at hl
  split
  ·exact h
  ·rename_i h1
   rw [if_neg h1] at hl
   split
   ·exact h
   ·rename_i h2
    rw [if_neg h2] at hl
    obtain ⟨⟨⟨g1, g2⟩, ⟨g3, g4⟩, g5, g6⟩, g7, g8, g9⟩ := h
    have hm := hS7 (hs := r.heads) (n := f)
    obtain ⟨z, hz⟩ := gJ7 (xs := r.heads) (i := (aM7 r.heads f).toNat) (by omega)
    have hz' : idx r.heads (aM7 r.heads f) = some z := by rw [ch7 (by omega)]; exact hz
    rw [hz']
    have hz8 := g8 z (List.mem_of_getElem? hz)
    refine ⟨⟨⟨g1, g2⟩, ⟨by simp, by simp; omega⟩, g5, fun y hy => ?_⟩, by simp; omega, fun y hy => ?_, g9⟩
    ·rcases List.mem_append.1 hy with h | h
     ·exact g6 y h
     ·simp only [List.mem_singleton] at h; subst h; exact hn
    ·rcases List.mem_append.1 hy with h | h
     ·exact g8 y h
     ·simp only [List.mem_singleton] at h; subst h; exact hz8
 ·rename_i h0
  rw [if_neg h0] at hl
  exact absurd hl (by decide)
theorem yr7 {x : an7} (hx : gR x) : Drw (fun r => q37 r x) 160 fun o => ∀ y, o = some y → gR y := fun b p hb h0 hp => by
 have hw := P47 hx.1
 have hx' := hx
 obtain ⟨⟨⟨g1, g2⟩, ⟨g3, g4⟩, g5, g6⟩, g7, g8, g9⟩ := hx
 obtain ⟨nm, p1, h1, a1, b1, c1⟩ := yi7 b p hb h0 (by omega)
 simp only [q37]
 rw [h1, Option.bind_some]
 simp only
 rw [fT7 (by omega), Option.bind_some]
 have hm := hS7 (hs := x.heads) (n := nm)
 by_cases hneg : aM7 x.heads nm < 0
 ·rw [if_pos (by simpa using hneg)]
  obtain ⟨k, p2, h2, a2, b2, k1, k2⟩ := bM7 (n := (x.heads.length : Int)) b p1 hb (by omega) (by omega)
  have k2 := k2 (by omega)
  simp only at h2
  obtain ⟨z, hz⟩ := gJ7 (xs := x.heads) (i := k.toNat) (by omega)
  have hz' : idx x.heads k = some z := by rw [ch7 k1]; exact hz
  rw [h2, Option.bind_some]
  simp only
  rw [hz', Option.bind_some, rr7 (by omega) (by have := uf7 c1; omega), Option.bind_some]
  by_cases hl : 0 < (eP7 x nm z.name).1.heads.length
  ·rw [if_pos (by simpa using hl)]
   exact ⟨_, p2, rfl, by omega, by omega, fun y hy => by cases hy; exact yq7 hx' c1 hl⟩
  ·rw [if_neg (by simpa using hl)]
   exact ⟨_, p2, rfl, by omega, by omega, fun y hy => by cases hy⟩
 ·rw [if_neg (by simpa using hneg)]
  have hm := hm.resolve_left hneg
  obtain ⟨z, hz⟩ := gJ7 (xs := x.heads) (i := (aM7 x.heads nm).toNat) (by omega)
  have hz' : idx x.heads (aM7 x.heads nm) = some z := by rw [ch7 hm.1]; exact hz
  have hz8 := g8 z (List.mem_of_getElem? hz)
  obtain ⟨cm, hcm⟩ := gJ7 (xs := x.commits) (i := z.at_.toNat) (by omega)
  have hcm' : idx x.commits z.at_ = some cm := by rw [ch7 hz8.1]; exact hcm
  have hcb := g5 cm (List.mem_of_getElem? hcm)
  obtain ⟨sh, p2, h2, a2, b2, c2⟩ := yp7 hcb.2.1 b p1 hb (by omega) (by omega)
  obtain ⟨nt, p3, h3, a3, b3, c3⟩ := yj7 b p2 hb (by omega) (by omega)
  obtain ⟨k, p4, h4, a4, b4, k1, k2⟩ := bM7 (n := (x.heads.length : Int)) b p3 hb (by omega) (by omega)
  have k2 := k2 (by omega)
  simp only at h2 h3 h4
  obtain ⟨y, hy⟩ := gJ7 (xs := x.heads) (i := k.toNat) (by omega)
  have hy' : idx x.heads k = some y := by rw [ch7 k1]; exact hy
  rw [hz', Option.bind_some, hcm', Option.bind_some, h2, Option.bind_some]
  simp only
  rw [h3, Option.bind_some, Option.bind_some]
  simp only
  rw [h4, Option.bind_some]
  simp only
  rw [hy', Option.bind_some]
  obtain ⟨w, p5, h5, a5, b5, _⟩ := bM7 (n := 4) b p4 hb (by omega) (by omega)
  simp only at h5
  have key : ∃ up p6, ((if (y.at_ != z.at_) = true then ((bJ7 (⟨b, p4⟩ : Rd) 4).bind fun x49 => if (x49.1 == 0) = true then (some ([z.at_, y.at_], x49.2)) else (some ([z.at_], x49.2))) else (some ([z.at_], p4)) : Option ((List Int) × Int))) = some (up, p6) ∧ up.length ≤ 2 ∧ p4 ≤ p6 ∧ p6 ≤ p4 + 1 := by
   split
   ·rw [h5, Option.bind_some]
    simp only
    split
    ·exact ⟨_, _, rfl, by simp, a5, b5⟩
    ·exact ⟨_, _, rfl, by simp, a5, b5⟩
   ·exact ⟨_, _, rfl, by simp, by omega, by omega⟩
  obtain ⟨up, p6, k1', k2', k3', k4'⟩ := key
  rw [k1', Option.bind_some]
  by_cases hl : 12 ≤ x.commits.length
  ·rw [if_pos (by simp; omega)]
   exact ⟨_, p6, rfl, by omega, by omega, fun y hy => by cases hy⟩
  ·rw [if_neg (by simp; omega), o37 (by omega), Option.bind_some]
   obtain ⟨o, o1, o2⟩ := AW7 (k := aM7 x.heads nm) (c := ⟨up, sh, nt⟩) hx' hm.1 hm.2 ⟨by simp only; omega, c2, c3⟩ k2' (by omega)
   rw [o1]
   exact ⟨_, p6, rfl, by omega, by omega, fun y hy => by cases hy; exact o2⟩
theorem hT7 (a : Rd) (hb : a.b.length ≤ 2000) : ∀ (m n : Nat) (i p : Int) (cs : List Commit) (hs : List Head), m < n → i = m → gR ⟨cs, hs⟩ → 0 ≤ p → p + 160 * m ≤ 100000 → ∃ p' cs' hs', dI7 a n i p cs hs = some (p', cs', hs') ∧ p ≤ p' ∧ p' ≤ p + 160 * m ∧ gR ⟨cs', hs'⟩
 | _, 0, _, _, _, _, h, _, _, _, _ => by omega
 | 0, n + 1, i, p, cs, hs, h, hi, hg, hp, hq => by
  unfold dI7
  rw [if_neg (by simp; omega)]
  exact ⟨p, cs, hs, rfl, by omega, by omega, hg⟩
 | m + 1, n + 1, i, p, cs, hs, h, hi, hg, hp, hq => by
  unfold dI7
  rw [if_pos (by simp; omega), aP7 (n := i - 1) (by omega) (by omega)]
  obtain ⟨o, p1, h1, a1, b1, c1⟩ := yr7 hg a.b p hb hp (by omega)
  simp only at h1
  rw [h1, Option.bind_some]
  cases o with
  | none =>
   obtain ⟨p', cs', hs', e1, e2, e3, e4⟩ := hT7 a hb m n (i - 1) p1 cs hs (by omega) (by omega) hg (by omega) (by omega)
   exact ⟨p', cs', hs', e1, by omega, by omega, e4⟩
  | some y =>
   obtain ⟨p', cs', hs', e1, e2, e3, e4⟩ := hT7 a hb m n (i - 1) p1 y.commits y.heads (by omega) (by omega) (c1 y rfl) (by omega) (by omega)
   exact ⟨p', cs', hs', e1, by omega, by omega, e4⟩
theorem ys7 : Drw q57 1500 gR := fun b p hb h0 hp => by
 obtain ⟨s, p1, h1, a1, b1, s1, s2⟩ := nU7 b p hb h0 (by omega)
 obtain ⟨k, p2, h2, a2, b2, k1, k2⟩ := bM7 (n := 7) b p1 hb (by omega) (by omega)
 have k2 := k2 (by omega)
 have hnew : qW7 (⟨#[109, 97, 105, 110]⟩ : Str) = some (⟨[⟨[], [], (⟨#[98, 101, 103, 105, 110]⟩ : Str)⟩], [⟨(⟨#[109, 97, 105, 110]⟩ : Str), 0⟩]⟩, true) := by
  unfold qW7
  rw [eE7 (by decide), Option.bind_some, (by decide : a87 (⟨#[109, 97, 105, 110]⟩ : Str) = true)]
  rfl
 simp only at h2
 unfold q57
 rw [hnew, Option.bind_some, h1, Option.bind_some]
 simp only
 rw [show idx [(⟨[], [], (⟨#[98, 101, 103, 105, 110]⟩ : Str)⟩ : Commit)] 0 = some ⟨[], [], (⟨#[98, 101, 103, 105, 110]⟩ : Str)⟩ from rfl, Option.bind_some, h2, Option.bind_some]
 simp only
 rw [aP7 (n := 2 + k) (by omega) (by omega)]
 have hg : gR ⟨List.set [(⟨[], [], (⟨#[98, 101, 103, 105, 110]⟩ : Str)⟩ : Commit)] (0 : Int).toNat ⟨[], s, (⟨#[98, 101, 103, 105, 110]⟩ : Str)⟩, [⟨(⟨#[109, 97, 105, 110]⟩ : Str), 0⟩]⟩ := by
  refine ⟨⟨⟨by simp, by simp⟩, ⟨by simp, by simp⟩, fun c hc => ?_, fun h hh => ?_⟩, by simp, fun h hh => ?_, fun c hc => ?_⟩
  ·have : c = ⟨[], s, (⟨#[98, 101, 103, 105, 110]⟩ : Str)⟩ := by simpa using hc
   subst this
   exact ⟨by simp, ⟨by simp only; omega, s2⟩, EZ7 (s := ⟨#[98, 101, 103, 105, 110]⟩) (by decide)⟩
  ·simp only [List.mem_singleton] at hh; subst hh; exact (List.mem_cons_self : (⟨#[109, 97, 105, 110]⟩ : Str) ∈ nm3)
  ·simp only [List.mem_singleton] at hh; subst hh; simp
  ·have : c = ⟨[], s, (⟨#[98, 101, 103, 105, 110]⟩ : Str)⟩ := by simpa using hc
   subst this
   simp
 obtain ⟨p3, cs, hs, h3, a3, b3, c3⟩ := hT7 ⟨b, p⟩ hb (2 + k).toNat a47 (2 + k) p2 _ _ (by unfold a47; omega) (by omega) hg (by omega) (by omega)
 rw [h3, Option.bind_some]
 simp only
 obtain ⟨w, p4, h4, a4, b4, _⟩ := bM7 (n := 4) b p3 hb (by omega) (by omega)
 simp only at h4
 rw [h4, Option.bind_some]
 simp only
 split
 ·by_cases hl : 1 < hs.length
  ·rw [if_pos (by simp; omega), cd7 (by omega) (by have := c3.2.1; simp only at this; omega)]
   unfold slc
   rw [if_pos ⟨by omega, by omega, by omega⟩]
   obtain ⟨⟨g1, ⟨g3, g4⟩, g5, g6⟩, g7, g8, g9⟩ := c3
   simp only at g3 g4 g7 g8 g6
   refine ⟨_, p4, rfl, by omega, by omega, ⟨g1, ⟨by simp; omega, by simp; omega⟩, g5, fun h hh => ?_⟩, by simp; omega, fun h hh => ?_, g9⟩
   ·exact g6 h (List.mem_of_mem_take (List.mem_of_mem_drop hh))
   ·exact g8 h (List.mem_of_mem_take (List.mem_of_mem_drop hh))
  ·rw [if_neg (by simp; omega)]
   exact ⟨_, p4, rfl, by omega, by omega, c3⟩
 ·exact ⟨_, p4, rfl, by omega, by omega, c3⟩
theorem AX7 {cs : List Commit} {i : Nat} {c y : Commit} (h : y ∈ cs.set i c) : y ∈ cs ∨ y = c := List.mem_or_eq_of_mem_set h
theorem o77 {r : an7} {i : Nat} {c : Commit} (h : bR r) (hc : bC c) : bR ⟨r.commits.set i c, r.heads⟩ := by
 obtain ⟨g1, g2, g3, g4⟩ := h
 refine ⟨by simpa using g1, g2, fun y hy => ?_, g4⟩
 rcases AX7 hy with h | h
 ·exact g3 y h
 ·subst h; exact hc
theorem yt7 : Drw q67 1800 bR := fun b p hb h0 hp => by
 obtain ⟨r, p1, h1, a1, b1, hg⟩ := ys7 b p hb h0 (by omega)
 have hr := hg.1
 have hr' := hr
 obtain ⟨⟨g1, g2⟩, ⟨g3, g4⟩, g5, g6⟩ := hr
 have g7 := hg.2.1
 obtain ⟨k, p2, h2, a2, b2, k1, k2⟩ := bM7 (n := (r.commits.length : Int)) b p1 hb (by omega) (by omega)
 have k2 := k2 (by omega)
 obtain ⟨c, p3, h3, a3, b3, _⟩ := bM7 (n := 48) b p2 hb (by omega) (by omega)
 simp only at h2 h3
 unfold q67
 rw [h1, Option.bind_some]
 simp only
 rw [h2, Option.bind_some]
 simp only
 rw [h3, Option.bind_some, Option.bind_some]
 simp only
 obtain ⟨y, hy⟩ := gJ7 (xs := r.commits) (i := k.toNat) (by omega)
 have hy' : idx r.commits k = some y := by rw [ch7 k1]; exact hy
 have hyb := g5 y (List.mem_of_getElem? hy)
 obtain ⟨z, hz⟩ := gJ7 (xs := r.heads) (i := 0) (by omega)
 have hz' : idx r.heads 0 = some z := by rw [show (0 : Int) = ((0 : Nat) : Int) from rfl, al7]; exact hz
 have hzb := g6 z (List.mem_of_getElem? hz)
 by_cases c0 : (c == 0) = true
 ·rw [if_pos c0]
  obtain ⟨x, p4, h4, a4, b4, _⟩ := rv7 (l := [-1, (r.commits.length : Int)]) (by simp) b p3 hb (by omega) (by omega)
  simp only at h4
  rw [h4, Option.bind_some, hz']
  refine ⟨_, p4, rfl, by omega, by omega, ⟨g1, g2⟩, ⟨by simp; omega, by simp; omega⟩, g5, fun h hh => ?_⟩
  rcases List.mem_or_eq_of_mem_set hh with h' | h'
  ·exact g6 h h'
  ·subst h'; exact hzb
 rw [if_neg c0]
 by_cases c1 : (c == 1) = true
 ·rw [if_pos c1, hy', Option.bind_some]
  have hup : y.up.length ≤ 2 := hg.2.2.2 y (List.mem_of_getElem? hy)
  rw [if_pos (ab7 (by simp; omega))]
  exact ⟨_, p3, rfl, by omega, by omega, o77 hr' ⟨by simp; omega, hyb.2.1, hyb.2.2⟩⟩
 rw [if_neg c1]
 by_cases c2 : (c == 2) = true
 ·rw [if_pos c2]
  obtain ⟨x, p4, h4, a4, b4, hx⟩ := ym7 b p3 hb (by omega) (by omega)
  rw [h4, Option.bind_some, hy']
  exact ⟨_, p4, rfl, by omega, by omega, o77 hr' ⟨hyb.1, hx, hyb.2.2⟩⟩
 rw [if_neg c2]
 by_cases c3 : (c == 3) = true
 ·rw [if_pos c3, hy']
  exact ⟨_, p3, rfl, by omega, by omega, o77 hr' ⟨hyb.1, hyb.2.1, EZ7 (s := ⟨#[]⟩) (by decide)⟩⟩
 rw [if_neg c3]
 by_cases c4 : (c == 4) = true
 ·rw [if_pos c4, hz', Option.bind_some, if_pos (ab7 (by simp; omega))]
  refine ⟨_, p3, rfl, by omega, by omega, ⟨g1, g2⟩, ⟨by simp, by simp; omega⟩, g5, fun h hh => ?_⟩
  rcases List.mem_append.1 hh with h' | h'
  ·exact g6 h h'
  ·simp only [List.mem_singleton] at h'; subst h'; exact hzb
 rw [if_neg c4]
 by_cases c5 : (c == 5) = true
 ·rw [if_pos c5, hy']
  exact ⟨_, p3, rfl, by omega, by omega, o77 hr' ⟨by simp, hyb.2.1, hyb.2.2⟩⟩
 rw [if_neg c5]
 exact ⟨r, p3, rfl, by omega, by omega, hr'⟩
theorem E07 (code : List UInt8) : ∃ b, qQ7 code = some ⟨b, 0⟩ ∧ b.length ≤ 2000 := by
 unfold qQ7
 split
 ·rename_i h
  have h' : (code.length : Int) > 2000 := by simpa using h
  unfold slc
  rw [if_pos ⟨by omega, by omega, by omega⟩]
  exact ⟨_, rfl, by simp; omega⟩
 ·rename_i h
  have h' : ¬ (code.length : Int) > 2000 := by simpa using h
  exact ⟨code, rfl, by omega⟩
theorem fY7 {α : Type} {p : α → Nat → Bool} : ∀ {a b : List α} {k : Nat}, aZ7 p (a ++ b) k = (aZ7 p a k && aZ7 p b (k + a.length))
 | [], b, k => by simp [aZ7]
 | x :: a, b, k => by
  simp only [List.cons_append, aZ7, fY7 (a := a), List.length_cons, Bool.and_assoc]
  rw [show k + 1 + a.length = k + (a.length + 1) by omega]
theorem d37 {α : Type} {p q : α → Nat → Bool} {l : List α} {k : Nat} (h : ∀ j x, l[j]? = some x → p x (k + j) = true → q x (k + j) = true) (hp : aZ7 p l k = true) : aZ7 q l k = true :=
 g67 fun j x hx => h j x hx (cf7 hp j x hx)
theorem fZ7 {α : Type} {p : α → Bool} : ∀ {a b : List α} {k : Nat}, az7 p (a ++ b) k = if az7 p a k < 0 then az7 p b (k + a.length) else az7 p a k
 | [], b, k => by simp [az7]
 | x :: a, b, k => by
  simp only [List.cons_append, az7]
  split
  ·rw [if_neg (by omega)]
  ·rw [fZ7 (a := a), List.length_cons, show k + 1 + a.length = k + (a.length + 1) by omega]
theorem yu7 {α β : Type} {f : α → β} {p : β → Bool} : ∀ {l : List α} {k : Nat}, az7 (fun x => p (f x)) l k = az7 p (l.map f) k
 | [], k => rfl
 | x :: l, k => by
  simp only [List.map_cons, az7]
  split
  ·rfl
  ·exact yu7
theorem rw7 {hs : List Head} {n : Str} : aM7 hs n = az7 (fun x => decide (x = n)) (hs.map Head.name) 0 := yu7 (f := Head.name) (p := fun x => decide (x = n))
theorem f07 {a b : List Head} {n : Str} (h : a.map Head.name = b.map Head.name) : aM7 a n = aM7 b n := by rw [rw7, rw7, h]
theorem iZ7 {hs : List Head} {i : Nat} {h : Head} {v : Int} (hi : hs[i]? = some h) : (hs.set i ⟨h.name, v⟩).map Head.name = hs.map Head.name := by
 rw [List.map_set]
 apply List.ext_getElem?
 intro j
 rw [List.getElem?_set]
 split
 ·rename_i e
  subst e
  have := (List.getElem?_eq_some_iff.1 hi).1
  have e := (List.getElem?_eq_some_iff.1 hi).2
  simp [this, e]
 ·rfl
theorem cm7 {r : an7} : ba7 r = true ↔ (1 ≤ r.commits.length ∧ r.commits.length ≤ 14) ∧ (1 ≤ r.heads.length ∧ r.heads.length ≤ 4) ∧ cy7 r.commits = true ∧ lD7 r.commits.length r.heads = true := by
 unfold ba7
 simp only [Bool.and_eq_true, decide_eq_true_eq]
 constructor
 ·rintro ⟨a, b, c, d, e, f⟩; exact ⟨⟨a, b⟩, ⟨c, d⟩, e, f⟩
 ·rintro ⟨⟨a, b⟩, ⟨c, d⟩, e, f⟩; exact ⟨a, b, c, d, e, f⟩
theorem kN7 {r : an7} (h : ba7 r = true) {i : Nat} {z : Head} (hz : r.heads[i]? = some z) : a87 z.name = true ∧ aM7 r.heads z.name = (i : Int) ∧ 0 ≤ z.at_ ∧ z.at_ < (r.commits.length : Int) := by
 have := cf7 (cm7.1 h).2.2.2 i z hz
 simp only [Nat.zero_add, Bool.and_eq_true, decide_eq_true_eq] at this
 exact ⟨this.1, this.2.1, this.2.2.1, this.2.2.2⟩
theorem rx7 {r : an7} {n : Str} {v : Int} (h : ba7 r = true) (hn : a87 n = true) (hl : r.heads.length < 4) (hno : aM7 r.heads n < 0) (h0 : 0 ≤ v) (h1 : v < (r.commits.length : Int)) : ba7 ⟨r.commits, r.heads ++ [⟨n, v⟩]⟩ = true := by
 obtain ⟨a, b, c, d⟩ := cm7.1 h
 refine cm7.2 ⟨a, ⟨by simp, by simp; omega⟩, c, ?_⟩
 unfold lD7
 rw [fY7, Bool.and_eq_true]
 constructor
 ·refine d37 (fun j x hx hp => ?_) d
  simp only [Nat.zero_add, Bool.and_eq_true, decide_eq_true_eq] at hp ⊢
  refine ⟨hp.1, ?_, hp.2.2⟩
  have e : aM7 r.heads x.name = az7 (fun y : Head => decide (y.name = x.name)) r.heads 0 := rfl
  unfold aM7
  rw [fZ7, ← e, if_neg (by omega)]
  exact hp.2.1
 ·have e : aM7 r.heads n = az7 (fun y : Head => decide (y.name = n)) r.heads 0 := rfl
  simp only [aZ7, Nat.zero_add, Bool.and_true, Bool.and_eq_true, decide_eq_true_eq]
  refine ⟨hn, ?_, h0, h1⟩
  unfold aM7
  rw [fZ7, ← e, if_pos hno]
  simp [az7]
theorem i07 {r : an7} {i : Nat} {z : Head} {v : Int} (h : ba7 r = true) (hz : r.heads[i]? = some z) (h0 : 0 ≤ v) (h1 : v < (r.commits.length : Int)) : ba7 ⟨r.commits, r.heads.set i ⟨z.name, v⟩⟩ = true := by
 obtain ⟨a, b, c, d⟩ := cm7.1 h
 refine cm7.2 ⟨a, by simpa using b, c, ?_⟩
 refine g67 fun j x hx => ?_
 have hn : ∀ n, aM7 (r.heads.set i ⟨z.name, v⟩) n = aM7 r.heads n := fun n => f07 (iZ7 hz)
 simp only [Nat.zero_add, Bool.and_eq_true, decide_eq_true_eq, hn]
 by_cases hj : i = j
 ·subst hj
  rw [List.getElem?_set_self (cn7 hz)] at hx
  cases hx
  obtain ⟨q1, q2, q3, q4⟩ := kN7 h hz
  exact ⟨q1, q2, h0, h1⟩
 ·rw [List.getElem?_set_ne hj] at hx
  obtain ⟨q1, q2, q3, q4⟩ := kN7 h hx
  exact ⟨q1, q2, q3, q4⟩
theorem ry7 {r : an7} {u : Int} {s : List Feat} {t : Str} (h : ba7 r = true) (hl : r.commits.length < 14) (h0 : 0 ≤ u) (h1 : u < (r.commits.length : Int)) (hs : aQ7 s = true) (ht : a87 t = true) (hno : bk7 r.commits ⟨[u], s, t⟩ < 0) :
  ba7 ⟨r.commits ++ [⟨[u], s, t⟩], r.heads⟩ = true ∧ bk7 (r.commits ++ [⟨[u], s, t⟩]) ⟨[u], s, t⟩ = (r.commits.length : Int) := by
 obtain ⟨a, b, c, d⟩ := cm7.1 h
 have e : bk7 r.commits ⟨[u], s, t⟩ = az7 (fun y : Commit => decide (y = ⟨[u], s, t⟩)) r.commits 0 := rfl
 have hf : bk7 (r.commits ++ [⟨[u], s, t⟩]) ⟨[u], s, t⟩ = (r.commits.length : Int) := by
  unfold bk7
  rw [fZ7, ← e, if_pos hno]
  simp [az7]
 refine ⟨cm7.2 ⟨⟨by simp, by simp; omega⟩, b, ?_, ?_⟩, hf⟩
 ·unfold cy7
  rw [fY7, Bool.and_eq_true]
  constructor
  ·refine d37 (fun j x hx hp => ?_) c
   simp only [Nat.zero_add, Bool.and_eq_true, decide_eq_true_eq] at hp ⊢
   refine ⟨hp.1, hp.2.1, hp.2.2.1, ?_⟩
   have e2 : bk7 r.commits x = az7 (fun y : Commit => decide (y = x)) r.commits 0 := rfl
   unfold bk7
   rw [fZ7, ← e2, if_neg (by omega)]
   exact hp.2.2.2
  ·simp only [aZ7, Nat.zero_add, Bool.and_true, Bool.and_eq_true, decide_eq_true_eq]
   refine ⟨?_, hs, ht, hf⟩
   simp only [mUp, aZ7, Bool.and_true, Bool.and_eq_true, decide_eq_true_eq, beq_iff_eq]
   exact ⟨⟨h0, h1⟩, by simp, by simp; omega, by simp⟩
 ·refine d37 (fun j x hx hp => ?_) d
  simp only [Nat.zero_add, Bool.and_eq_true, decide_eq_true_eq, List.length_append, List.length_singleton] at hp ⊢
  exact ⟨hp.1, hp.2.1, hp.2.2.1, by omega⟩
theorem yv7 {r : an7} {n t : Str} {s : List Feat} (h : (rs7 r n s t).2 = 0) : ba7 r = true ∧ aQ7 s = true ∧ a87 t = true ∧ ∃ (i : Nat) (z : Head) (x : Commit), aM7 r.heads n = (i : Int) ∧ r.heads[i]? = some z ∧ idx r.commits z.at_ = some x ∧ x.sheet ≠ s ∧
  ((bk7 r.commits ⟨[z.at_], s, t⟩ < 0 ∧ r.commits.length < 14 ∧ rs7 r n s t = (⟨r.commits ++ [⟨[z.at_], s, t⟩], r.heads.set i ⟨z.name, r.commits.length⟩⟩, 0)) ∨
   (0 ≤ bk7 r.commits ⟨[z.at_], s, t⟩ ∧ rs7 r n s t = (⟨r.commits, r.heads.set i ⟨z.name, bk7 r.commits ⟨[z.at_], s, t⟩⟩⟩, 0))) := by
 unfold rs7 at h ⊢
 by_cases h0 : (ba7 r && (aQ7 s && a87 t)) = true
 ·rw [if_pos h0] at h ⊢
  simp only [Bool.and_eq_true] at h0
  refine ⟨h0.1, h0.2.1, h0.2.2, ?_⟩
  have hl := do7 h0.1
  rcases hS7 (hs := r.heads) (n := n) with hm | ⟨hm1, hm2⟩
  ·have : idx r.heads (aM7 r.heads n) = none := by unfold idx; rw [if_neg (by omega)]
   rw [this] at h
   exact absurd (show (1 : Int) = 0 from h) (by decide)
  ·obtain ⟨i, hi⟩ : ∃ i : Nat, aM7 r.heads n = (i : Int) := ⟨(aM7 r.heads n).toNat, by omega⟩
   obtain ⟨z, hz⟩ := gJ7 (xs := r.heads) (i := i) (by omega)
   have hz' : idx r.heads (aM7 r.heads n) = some z := by rw [hi, al7]; exact hz
   rw [hz'] at h ⊢
   simp only at h ⊢
   cases hx : idx r.commits z.at_ with
   | none => rw [hx] at h; exact absurd (show (1 : Int) = 0 from h) (by decide)
   | some x =>
    rw [hx] at h
    simp only at h
    by_cases hs : x.sheet = s
    ·rw [if_pos hs] at h; exact absurd (show (3 : Int) = 0 from h) (by decide)
    rw [if_neg hs] at h
    refine ⟨i, z, x, hi, hz, hx, hs, ?_⟩
    simp only [if_neg hs]
    by_cases hf : bk7 r.commits ⟨[z.at_], s, t⟩ < 0
    ·rw [if_pos hf] at h
     by_cases h14 : r.commits.length = 14
     ·rw [if_pos h14] at h; exact absurd (show (2 : Int) = 0 from h) (by decide)
     left
     refine ⟨hf, by omega, ?_⟩
     rw [if_pos hf, if_neg h14, hi]
     rfl
    ·right
     refine ⟨by omega, ?_⟩
     rw [if_neg hf, hi]
     rfl
 ·rw [if_neg h0] at h
  exact absurd (show (4 : Int) = 0 from h) (by decide)
theorem AY7 {r : an7} {n t : Str} {s : List Feat} {i : Nat} {z : Head} {x : Commit} (hr : ba7 r = true) (hs : aQ7 s = true) (ht : a87 t = true) (hi : aM7 r.heads n = (i : Int)) (hz : r.heads[i]? = some z) (hx : idx r.commits z.at_ = some x) (hne : x.sheet ≠ s) (hf : bk7 r.commits ⟨[z.at_], s, t⟩ < 0) (hl : r.commits.length < 14) :
  rs7 r n s t = (⟨r.commits ++ [⟨[z.at_], s, t⟩], r.heads.set i ⟨z.name, r.commits.length⟩⟩, 0) := by
 unfold rs7
 have hz' : idx r.heads (aM7 r.heads n) = some z := by rw [hi, al7]; exact hz
 rw [if_pos (by rw [hr, hs, ht]; rfl), hz']
 simp only [hx]
 rw [if_neg hne, if_pos hf, if_neg (by omega), hi]
 rfl
theorem AZ7 {r : an7} {n t : Str} {s : List Feat} {i : Nat} {z : Head} {x : Commit} (hr : ba7 r = true) (hs : aQ7 s = true) (ht : a87 t = true) (hi : aM7 r.heads n = (i : Int)) (hz : r.heads[i]? = some z) (hx : idx r.commits z.at_ = some x) (hne : x.sheet ≠ s) (hf : 0 ≤ bk7 r.commits ⟨[z.at_], s, t⟩) :
  rs7 r n s t = (⟨r.commits, r.heads.set i ⟨z.name, bk7 r.commits ⟨[z.at_], s, t⟩⟩⟩, 0) := by
 unfold rs7
 have hz' : idx r.heads (aM7 r.heads n) = some z := by rw [hi, al7]; exact hz
 rw [if_pos (by rw [hr, hs, ht]; rfl), hz']
 simp only [hx]
 rw [if_neg hne, if_neg (by omega), hi]
 rfl
theorem yw7 {hs : List Head} {z : Head} {n : Str} (h : 0 ≤ aM7 hs n) : aM7 (hs ++ [z]) n = aM7 hs n := by
 have e : aM7 hs n = az7 (fun y : Head => decide (y.name = n)) hs 0 := rfl
 unfold aM7 at h ⊢
 rw [fZ7, if_neg (by omega)]
theorem yx7 {hs : List Head} {z : Head} (h : aM7 hs z.name < 0) : aM7 (hs ++ [z]) z.name = (hs.length : Int) := by
 unfold aM7 at h ⊢
 rw [fZ7, if_pos h]
 simp [az7]
theorem sM7 {r : an7} {n f : Str} {i : Nat} {z : Head} (hr : ba7 r = true) (hn : a87 n = true) (hi : aM7 r.heads f = (i : Int)) (hz : r.heads[i]? = some z) (hno : aM7 r.heads n < 0) (hl : r.heads.length < 4) : eP7 r n f = (⟨r.commits, r.heads ++ [⟨n, z.at_⟩]⟩, 0) := by
 unfold eP7
 have hz' : idx r.heads (aM7 r.heads f) = some z := by rw [hi, al7]; exact hz
 rw [if_pos (by rw [hr, hn]; rfl), if_neg (by omega), if_neg (by omega), hz']
theorem i17 {r : an7} {n : Str} (hw : be7 r ≤ 1048576) : iI7 r n = some (cW7 r n) := by
 have hh : r.heads.length ≤ 1048576 := by unfold be7 wL at hw; omega
 unfold iI7
 rw [cG7 hh, iS7 hw]
 simp only [Option.bind_some]
 rcases kk7 r n with ⟨h1, h2⟩ | ⟨k, a, h, hr, h1, h2, h3, h4, h5, h6⟩
 ·rw [h1]
  by_cases hr : ba7 r = true
  ·rw [hr, h2 hr]
   rfl
  ·simp only [Bool.not_eq_true] at hr
   rw [hr]
   rfl
 ·rw [h6, hr, h1]
  simp only [Bool.not_true]
  rw [if_neg (by decide), if_neg (by simp), al7, h2]
  simp [h4]
theorem yy7 {m : List Bool} {k : Nat} (h : gg7 m k = true) : k < m.length := by
 unfold gg7 at h
 rcases Nat.lt_or_ge k m.length with h1 | h1
 ·exact h1
 ·rw [List.getElem?_eq_none h1] at h
  cases h
theorem ug7 {m : List Bool} {a : Nat} : ∀ {b : Nat}, a ≤ b → cnt m a ≤ cnt m b
 | 0, h => by
  have : a = 0 := by omega
  subst this; exact Nat.le_refl _
 | b + 1, h => by
  rcases Nat.eq_or_lt_of_le h with rfl | h
  ·exact Nat.le_refl _
  ·have := ug7 (m := m) (a := a) (b := b) (by omega)
   simp only [cnt]
   omega
theorem nV7 {m : List Bool} : ∀ {l : List Commit} {k : Nat}, (gh7 m l k).length + cnt m k = cnt m (k + l.length)
 | [], k => by simp [gh7]
 | x :: l, k => by
  have ih := nV7 (m := m) (l := l) (k := k + 1)
  simp only [cnt] at ih
  rw [List.length_cons, show k + (l.length + 1) = k + 1 + l.length by omega]
  simp only [gh7]
  split
  ·rename_i h
   rw [if_pos h] at ih
   simp only [List.length_cons]
   omega
  ·rename_i h
   rw [if_neg h] at ih
   omega
theorem nW7 {m : List Bool} : ∀ {l : List Commit} {k j : Nat} {x : Commit}, l[j]? = some x → gg7 m (k + j) = true → (gh7 m l k)[cnt m (k + j) - cnt m k]? = some (AS7 m x)
 | [], k, j, x, h, _ => by simp at h
 | y :: l, k, 0, x, h, ht => by
  simp only [List.getElem?_cons_zero, Option.some.injEq] at h
  subst h
  simp only [Nat.add_zero] at ht
  simp [gh7, ht]
 | y :: l, k, j + 1, x, h, ht => by
  rw [show k + (j + 1) = k + 1 + j by omega] at ht ⊢
  have ih := nW7 (m := m) (l := l) (k := k + 1) (j := j) (by simpa using h) ht
  have hm := ug7 (m := m) (a := k + 1) (b := k + 1 + j) (by omega)
  simp only [cnt] at ih hm
  simp only [gh7]
  split
  ·rename_i hk
   rw [if_pos hk] at ih hm
   rw [show cnt m (k + 1 + j) - cnt m k = cnt m (k + 1 + j) - (cnt m k + 1) + 1 by omega, List.getElem?_cons_succ]
   exact ih
  ·rename_i hk
   rw [if_neg hk] at ih
   exact ih
theorem yz7 {m : List Bool} : ∀ {n j : Nat}, j < cnt m n → ∃ k, k < n ∧ gg7 m k = true ∧ cnt m k = j
 | 0, j, h => by simp [cnt] at h
 | n + 1, j, h => by
  by_cases hn : j < cnt m n
  ·obtain ⟨k, h1, h2, h3⟩ := yz7 hn
   exact ⟨k, by omega, h2, h3⟩
  ·simp only [cnt] at h
   split at h
   ·rename_i ht
    exact ⟨n, by omega, ht, by omega⟩
   ·omega
structure Kept (cs : List Commit) (m : List Bool) : Prop where
 hist : pg7 cs
 len : m.length = cs.length
 up : ∀ k x u, cs[k]? = some x → gg7 m k = true → u ∈ x.up → gg7 m u.toNat = true
section
variable {cs : List Commit} {m : List Bool}
theorem Kept.get (h : Kept cs m) {k : Nat} (hk : gg7 m k = true) : ∃ x, cs[k]? = some x ∧ (gh7 m cs 0)[cnt m k]? = some (AS7 m x) := by
 obtain ⟨x, hx⟩ := gJ7 (xs := cs) (i := k) (by rw [← h.len]; exact yy7 hk)
 have := nW7 (m := m) (l := cs) (k := 0) (j := k) hx (by simpa using hk)
 simp only [Nat.zero_add, cnt, Nat.sub_zero] at this
 exact ⟨x, hx, this⟩
theorem Kept.tot (h : Kept cs m) : (gh7 m cs 0).length = cnt m cs.length := by
 have := nV7 (m := m) (l := cs) (k := 0)
 simp only [Nat.zero_add, cnt] at this
 exact this
theorem Kept.from (h : Kept cs m) {j : Nat} {y : Commit} (hy : (gh7 m cs 0)[j]? = some y) : ∃ k x, gg7 m k = true ∧ cnt m k = j ∧ cs[k]? = some x ∧ y = AS7 m x := by
 have := cn7 hy
 rw [h.tot] at this
 obtain ⟨k, h1, h2, h3⟩ := yz7 this
 obtain ⟨x, h4, h5⟩ := h.get h2
 rw [h3, hy] at h5
 exact ⟨k, x, h2, h3, h4, Option.some.inj h5⟩
theorem Kept.anc (h : Kept cs m) {a b : Nat} (ha : gg7 m a = true) (hab : Anc cs a b) : gg7 m b = true ∧ Anc (gh7 m cs 0) (cnt m a) (cnt m b) := by
 induction hab with
 | refl => exact ⟨ha, .refl _⟩
 | up _ hx hu ih =>
  rename_i c x u _
  obtain ⟨x', h1, h2⟩ := h.get ih.1
  rw [hx] at h1
  cases h1
  refine ⟨h.up _ _ _ hx ih.1 hu, ?_⟩
  exact Anc.up (u := (cnt m u.toNat : Int)) ih.2 h2 (List.mem_map.2 ⟨u, hu, rfl⟩)
end
theorem yA7 {α : Type} {p : α → Bool} {l : List α} {k : Nat} (h : az7 p l 0 = (k : Int)) : (∃ x, l[k]? = some x ∧ p x = true) ∧ ∀ j y, j < k → l[j]? = some y → p y = false := by
 have key : ∀ (l : List α) (k q : Nat), az7 p l q = ((q + k : Nat) : Int) → (∃ x, l[k]? = some x ∧ p x = true) ∧ ∀ j y, j < k → l[j]? = some y → p y = false := by
  intro l
  induction l with
  | nil => intro k q h; simp only [az7] at h; omega
  | cons z l ih =>
   intro k q h
   simp only [az7] at h
   by_cases hz : p z = true
   ·rw [if_pos hz] at h
    have : k = 0 := by omega
    subst this
    exact ⟨⟨z, rfl, hz⟩, fun j y hj => by omega⟩
   ·rw [if_neg hz] at h
    cases k with
    | zero =>
     have hge : ∀ (l : List α) (q : Nat), az7 p l q = -1 ∨ (q : Int) ≤ az7 p l q := by
      intro l
      induction l with
      | nil => intro q; exact .inl rfl
      | cons w l ih =>
       intro q
       simp only [az7]
       split
       ·exact .inr (Int.le_refl _)
       ·rcases ih (q + 1) with h1 | h1
        ·exact .inl h1
        ·exact .inr (by omega)
     rcases hge l (q + 1) with h1 | h1 <;> omega
    | succ k =>
     obtain ⟨⟨x, h1, h2⟩, h3⟩ := ih k (q + 1) (by rw [h]; congr 1; omega)
     refine ⟨⟨x, by simpa using h1, h2⟩, fun j y hj hy => ?_⟩
     cases j with
     | zero => simp only [List.getElem?_cons_zero, Option.some.injEq] at hy; subst hy; simpa using hz
     | succ j => exact h3 j y (by omega) (by simpa using hy)
 exact key l k 0 (by simpa using h)
theorem E17 {hs : List Head} {n : Str} (hn : n ∉ nm3) (h : ∀ z ∈ hs, z.name ∈ nm3) : aM7 hs n = -1 := by
 have key : ∀ (l : List Head) (k : Nat), (∀ z ∈ l, z.name ∈ nm3) → az7 (fun y : Head => decide (y.name = n)) l k = -1 := by
  intro l
  induction l with
  | nil => intro k _; rfl
  | cons z l ih =>
   intro k hz
   have h1 := hz z (by simp)
   have h2 : z.name ≠ n := fun e => hn (e ▸ h1)
   simp only [az7, decide_eq_true_eq, if_neg h2]
   exact ih (k + 1) fun y hy => hz y (by simp [hy])
 exact key hs 0 h
theorem yB7 {r : an7} {n : Str} {i : Nat} {z : Head} (hr : ba7 r = true) (hi : aM7 r.heads n = (i : Int)) (hz : r.heads[i]? = some z) : cW7 r n = z.at_ := by
 unfold cW7
 rw [if_pos hr, hi, al7, hz]
theorem rz7 {r : an7} {z : Head} : be7 ⟨r.commits, r.heads ++ [z]⟩ = be7 r + (1 + z.name.size) := by
 unfold be7
 have : wL gl7 (r.heads ++ [z]) = wL gl7 r.heads + (1 + z.name.size) := by
  unfold wL
  rw [iW7]
  simp [gl7]
  omega
 simp only [this]
 omega
theorem jG7 {r : an7} {k : Nat} {x : Commit} (hw : be7 r ≤ 1048576) (hx : r.commits[k]? = some x) : wL aU7 x.sheet ≤ 1048576 := by
 have := bA7 (w := ax7) (List.mem_of_getElem? hx)
 have h3 : wL aU7 x.sheet ≤ ax7 x := by unfold ax7; omega
 unfold be7 at hw
 have h4 : wL ax7 r.commits = r.commits.length + gk7 ax7 r.commits := rfl
 omega
structure Added (r : an7) (n t : Str) (s : List Feat) (i : Nat) (z : Head) (x : Commit) (q : an7) (k : Nat) : Prop where
 repo : ba7 r = true
 sheet : aQ7 s = true
 word : a87 t = true
 hd : aM7 r.heads n = (i : Int)
 at_ : r.heads[i]? = some z
 name : z.name = n
 was : r.commits[z.at_.toNat]? = some x
 ge : 0 ≤ z.at_
 ne : x.sheet ≠ s
 eq : rs7 r n s t = (q, 0)
 heads : q.heads = r.heads.set i ⟨z.name, (k : Int)⟩
 comm : (q.commits = r.commits ∧ k < r.commits.length) ∨ (q.commits = r.commits ++ [⟨[z.at_], s, t⟩] ∧ k = r.commits.length ∧ r.commits.length < 14)
 get : q.commits[k]? = some ⟨[z.at_], s, t⟩
 repo' : ba7 q = true
theorem rA7 {cs : List Commit} {c : Commit} {k : Nat} (h : bk7 cs c = (k : Int)) : cs[k]? = some c := by
 obtain ⟨x, h1, h2⟩ := (yA7 h).1
 rw [h1, of_decide_eq_true h2]
theorem yC7 {hs : List Head} {n : Str} {k : Nat} (h : aM7 hs n = (k : Int)) : ∃ z, hs[k]? = some z ∧ z.name = n := by
 obtain ⟨x, h1, h2⟩ := (yA7 h).1
 exact ⟨x, h1, of_decide_eq_true h2⟩
theorem uh7 {r : an7} {n t : Str} {s : List Feat} (h : (rs7 r n s t).2 = 0) : ∃ i z x q k, Added r n t s i z x q k := by
 obtain ⟨hr, hs, ht, i, z, x, hi, hz, hx, hne, hcase⟩ := yv7 h
 obtain ⟨_, _, z0, z1⟩ := kN7 hr hz
 obtain ⟨z', hz', hzn⟩ := yC7 hi
 rw [hz] at hz'
 cases hz'
 have hx' : r.commits[z.at_.toNat]? = some x := by rw [← ch7 z0]; exact hx
 rcases hcase with ⟨f1, f2, f3⟩ | ⟨f1, f3⟩
 ·obtain ⟨m1, m2⟩ := ry7 hr f2 z0 z1 hs ht f1
  refine ⟨i, z, x, _, r.commits.length, hr, hs, ht, hi, hz, hzn, hx', z0, hne, f3, rfl, .inr ⟨rfl, rfl, f2⟩, by simp, ?_⟩
  exact i07 (r := ⟨r.commits ++ [⟨[z.at_], s, t⟩], r.heads⟩) (v := (r.commits.length : Int)) m1 hz (by omega) (by simp only [List.length_append, List.length_singleton]; omega)
 ·obtain ⟨k, hk⟩ : ∃ k : Nat, bk7 r.commits ⟨[z.at_], s, t⟩ = (k : Int) := ⟨(bk7 r.commits ⟨[z.at_], s, t⟩).toNat, by omega⟩
  have hg := rA7 hk
  rw [hk] at f3
  exact ⟨i, z, x, _, k, hr, hs, ht, hi, hz, hzn, hx', z0, hne, f3, rfl, .inl ⟨rfl, cn7 hg⟩, hg, i07 hr hz (by omega) (by have := cn7 hg; omega)⟩
section
variable {r q : an7} {n t : Str} {s : List Feat} {i k : Nat} {z : Head} {x : Commit}
theorem Added.head (h : Added r n t s i z x q k) : aM7 q.heads n = (i : Int) ∧ q.heads[i]? = some ⟨z.name, (k : Int)⟩ := by
 rw [h.heads]
 refine ⟨?_, List.getElem?_set_self (cn7 h.at_)⟩
 rw [f07 (iZ7 h.at_)]
 exact h.hd
theorem Added.w (h : Added r n t s i z x q k) (hw : be7 r ≤ 1000000) (hs : wL aU7 s ≤ 20000) (ht : t.size ≤ 7) : be7 q ≤ be7 r + 20010 := by
 have h1 := L07 (r := r) (n := n) (t := t) (s := s)
 rw [h.eq] at h1
 simp only at h1
 omega
end
theorem A07 (r : an7) : (⟨r.commits, r.heads⟩ : an7) = r := rfl
theorem Anc.head' {cs : List Commit} {a b : Nat} (h : Anc cs a b) : a = b ∨ ∃ x u, cs[a]? = some x ∧ u ∈ x.up ∧ Anc cs u.toNat b := by
 induction h with
 | refl => exact .inl rfl
 | up h hx hu ih =>
  rename_i c x u
  rcases ih with rfl | ⟨y, v, h1, h2, h3⟩
  ·exact .inr ⟨x, u, hx, hu, .refl _⟩
  ·exact .inr ⟨y, v, h1, h2, h3.up hx hu⟩
theorem E27 {cs : List Commit} {k a j : Nat} {c : Commit} (hk : cs[k]? = some c) (hu : c.up = [(a : Int)]) : Anc cs k j ↔ k = j ∨ Anc cs a j := by
 constructor
 ·intro h
  rcases h.head' with h1 | ⟨x, u, h1, h2, h3⟩
  ·exact .inl h1
  ·rw [hk] at h1
   cases h1
   rw [hu] at h2
   simp only [List.mem_singleton] at h2
   subst h2
   exact .inr (by simpa using h3)
 ·rintro (rfl | h)
  ·exact .refl _
  ·have h1 : Anc cs k ((a : Int).toNat) := .up (.refl k) hk (by rw [hu]; simp)
   exact Anc.trans (by simpa using h1) h
theorem yD7 {cs e : List Commit} (hc : pg7 cs) {a b : Nat} (ha : a < cs.length) : Anc (cs ++ e) a b ↔ Anc cs a b := by
 constructor
 ·intro h
  have key : b < cs.length ∧ Anc cs a b := by
   induction h with
   | refl => exact ⟨ha, .refl _⟩
   | up h hx hu ih =>
    rename_i c x u
    rw [List.getElem?_append_left ih.1] at hx
    have := hc.lt _ _ hx u hu
    exact ⟨by omega, ih.2.up hx hu⟩
  exact key.2
 ·intro h
  induction h with
  | refl => exact .refl _
  | up h hx hu ih => exact ih.up (by rw [List.getElem?_append_left (cn7 hx)]; exact hx) hu
section
variable {r q : an7} {n t : Str} {s : List Feat} {i k : Nat} {z : Head} {x : Commit}
theorem ui7 (hr : ba7 r = true) (hs : aQ7 s = true) (ht : a87 t = true) (hi : aM7 r.heads n = (i : Int)) (hz : r.heads[i]? = some z) (hx : idx r.commits z.at_ = some x) (hne : x.sheet ≠ s) (hl : r.commits.length < 14) : (rs7 r n s t).2 = 0 := by
 by_cases hf : bk7 r.commits ⟨[z.at_], s, t⟩ < 0
 ·rw [AY7 hr hs ht hi hz hx hne hf hl]
 ·rw [AZ7 hr hs ht hi hz hx hne (by omega)]
end
theorem o87 {cs : List Commit} (h : cy7 cs = true) : ∀ (n a : Nat), a ≤ n → a < cs.length → Anc cs a 0
 | n, 0, _, _ => .refl 0
 | 0, a + 1, h1, _ => by omega
 | n + 1, a + 1, h1, h2 => by
  obtain ⟨c, hc⟩ := gJ7 h2
  have hu := (g77 h hc).1
  have hlt := (EQ7 hu).1
  simp only [mUp, Bool.and_eq_true, beq_iff_eq] at hu
  have h3 : decide (0 < c.up.length) = true := by rw [hu.2.2.1]; simp
  have h3 := of_decide_eq_true h3
  obtain ⟨u, hu0⟩ := gJ7 h3
  have hm := List.mem_of_getElem? hu0
  have h4 := hlt u hm
  exact (Anc.up (.refl (a + 1)) hc hm).trans (o87 h n u.toNat (by omega) (by omega))
theorem gL7 {r : an7} (h : ba7 r = true) : cy7 r.commits = true := by
 unfold ba7 at h
 simp only [Bool.and_eq_true] at h
 exact h.2.2.2.2.1
theorem nX7 {p : Nat → Bool} : ∀ {n k : Nat}, k < n → p k = true → ∃ m : Nat, (go7 p n).head? = some (m : Int) ∧ m < n ∧ p m = true ∧ ∀ j : Nat, m < j → j < n → p j = false
 | 0, k, h, _ => by omega
 | n + 1, k, h, hp => by
  simp only [go7]
  by_cases hn : p n = true
  ·rw [if_pos hn]
   exact ⟨n, rfl, by omega, hn, fun j h1 h2 => by omega⟩
  ·rw [if_neg hn]
   have hk : k < n := by
    rcases Nat.lt_or_ge k n with h1 | h1
    ·exact h1
    ·have : k = n := by omega
     subst this
     exact absurd hp hn
   obtain ⟨m, h1, h2, h3, h4⟩ := nX7 hk hp
   exact ⟨m, h1, by omega, h3, fun j h5 h6 => by
    rcases Nat.lt_or_ge j n with h7 | h7
    ·exact h4 j h5 h7
    ·have : j = n := by omega
     subst this
     simpa using hn⟩
theorem km7 {r : an7} {a b : Nat} (hr : ba7 r = true) (ha : a < r.commits.length) (hb : b < r.commits.length) : ∃ k : Nat, cV7 r a b = (k : Int) ∧ k < r.commits.length ∧ Com r.commits a b k ∧ ∀ j, k < j → ¬ Com r.commits a b j := by
 have hc := cg7 hr
 have h1 : (inR r (a : Int) && inR r (b : Int)) = true := by unfold inR; rw [hr]; simp; omega
 have h0 : Com r.commits a b 0 := ⟨o87 (gL7 hr) _ a (Nat.le_refl _) ha, o87 (gL7 hr) _ b (Nat.le_refl _) hb⟩
 obtain ⟨i, hi, _⟩ := jD7 hc _ 0 (Nat.le_refl _) h0
 have hil : i < r.commits.length := by have := hi.1.1.le hc; omega
 obtain ⟨m, m1, m2, m3, m4⟩ := nX7 (p := fun k => @decide (ms7 r.commits a b k) (Classical.propDecidable _)) hil (by simpa using hi)
 refine ⟨m, ?_, m2, ?_, fun j hj hcm => ?_⟩
 ·unfold cV7
  rw [if_pos h1]
  simp only [Int.toNat_natCast]
  unfold nP7
  rw [m1]
  rfl
 ·have : ms7 r.commits a b m := by simpa using m3
  exact this.1
 ·obtain ⟨e, he, he2⟩ := jD7 hc _ j (Nat.le_refl _) hcm
  have h5 := he2.le hc
  have h6 : e < r.commits.length := by have := he.1.1.le hc; omega
  have h7 := m4 e (by omega) h6
  simp at h7
  exact h7 he
theorem A17 {α : Type} {w : α → Nat} {a b : List α} (h : a.Sublist b) : gk7 w a ≤ gk7 w b := by
 induction h with
 | slnil => exact Nat.le_refl _
 | cons x h ih => simp only [gk7]; omega
 | cons_cons x h ih => simp only [gk7]; omega
theorem L37 {α : Type} {w : α → Nat} {a b : List α} (h : a.Sublist b) : wL w a ≤ wL w b := by
 have h1 := A17 (w := w) h
 have h2 := h.length_le
 unfold wL
 omega
theorem yE7 (code : List UInt8) : ∃ r n, q77 code = some (r, n) ∧ bR r ∧ n.size ≤ 7 := by
 obtain ⟨b, h0, hb⟩ := E07 code
 obtain ⟨r, p1, h1, a1, b1, hr⟩ := yt7 b 0 hb (by omega) (by omega)
 obtain ⟨n, p2, h2, a2, b2, hn⟩ := ru7 (l := [(⟨#[109, 97, 105, 110]⟩ : Str), (⟨#[97, 110, 110]⟩ : Str), (⟨#[98, 111, 98]⟩ : Str), (⟨#[99, 97, 116]⟩ : Str)]) (by simp) b p1 hb (by omega) (by omega)
 simp only at h2
 unfold q77
 rw [h0, Option.bind_some, h1, Option.bind_some]
 simp only
 rw [h2]
 exact ⟨r, n, rfl, hr, (by decide : ∀ y ∈ [(⟨#[109, 97, 105, 110]⟩ : Str), (⟨#[97, 110, 110]⟩ : Str), (⟨#[98, 111, 98]⟩ : Str), (⟨#[99, 97, 116]⟩ : Str)], y.size ≤ 7) n hn⟩
def nF : Feat := ⟨⟨#[]⟩, ⟨0, []⟩, []⟩
theorem i27 {α : Type} {p : α → Bool} : ∀ (l : List α) (k : Nat), (l.find? p = none ∧ az7 p l k = -1) ∨ ∃ j x, l.find? p = some x ∧ az7 p l k = ((k + j : Nat) : Int) ∧ l[j]? = some x ∧ p x = true
 | [], k => .inl ⟨rfl, rfl⟩
 | y :: l, k => by
  simp only [List.find?_cons, az7]
  cases hp : p y
  ·rcases i27 (p := p) l (k + 1) with ⟨h1, h2⟩ | ⟨j, x, h1, h2, h3, h4⟩
   ·exact .inl ⟨h1, by simpa using h2⟩
   ·exact .inr ⟨j + 1, x, h1, by simp only [h2]; simp; omega, h3, h4⟩
  ·exact .inr ⟨0, y, rfl, by simp, rfl, hp⟩
def bb7 (s : List Feat) (id : Str) : Feat × Bool := match s.find? (fun f : Feat => decide (f.id = id)) with
 | some f => (f, true)
 | none => (nF, false)
theorem o97 {s : List Feat} {id : Str} (hl : s.length ≤ 1048576) : kb7 s id = some (az7 (fun f : Feat => decide (f.id = id)) s 0) := by
 unfold kb7 tX7
 have h := ow7 (gl := fJ7 id) (p := fun f : Feat => decide (f.id = id)) (ok := fun _ => True) (fun _ => rfl) (fun x l k _ => by simp only [fJ7, tW7, dw7, Option.bind_some]) s 0 (fun _ _ => trivial)
 rw [if_pos (ab7 hl)]
 exact (congrArg (fun o => Option.bind o fun x2 => some x2) h)
theorem A27 {s : List Feat} {id : Str} (hl : s.length ≤ 1048576) : j87 s id = some (az7 (fun f : Feat => decide (f.id = id)) s 0) := by
 unfold j87
 have h := ow7 (gl := em7 id) (p := fun f : Feat => decide (f.id = id)) (ok := fun _ => True) (fun _ => rfl) (fun x l k _ => by simp only [em7, dw7]) s 0 (fun _ _ => trivial)
 rw [if_pos (ab7 hl)]
 exact h
theorem L47 {s : List Feat} {id : Str} (h : wL aU7 s ≤ 1048576) : qJ7 s id = some (bb7 s id) := by
 have hl : s.length ≤ 1048576 := by unfold wL at h; omega
 unfold qJ7 bb7
 rw [o97 hl, Option.bind_some]
 rcases i27 (p := fun f : Feat => decide (f.id = id)) s 0 with ⟨h1, h2⟩ | ⟨j, x, h1, h2, h3, h4⟩
 ·rw [h1, h2]; rfl
 ·have hx := bA7 (w := aU7) (List.mem_of_getElem? h3)
  rw [h1, h2, if_neg (by simp), al7, Nat.zero_add, h3, Option.bind_some, fX7 (by unfold wL at h; omega)]
  rfl
theorem pa7 {s : List Feat} {id : Str} (h : wL aU7 s ≤ 1048576) : lK7 s id = some (bb7 s id) := by
 have hl : s.length ≤ 1048576 := by unfold wL at h; omega
 unfold lK7 bb7
 rw [A27 hl, Option.bind_some]
 rcases i27 (p := fun f : Feat => decide (f.id = id)) s 0 with ⟨h1, h2⟩ | ⟨j, x, h1, h2, h3, h4⟩
 ·rw [h1, h2]; rfl
 ·have hx := bA7 (w := aU7) (List.mem_of_getElem? h3)
  rw [h1, h2, if_neg (by simp), al7, Nat.zero_add, h3, Option.bind_some, o17 (by unfold wL at h; omega)]
  rfl
def i37 (s : List Feat) (id : Str) : List Feat := s.filter fun y => !decide (y.id = id)
def co7 (f : Feat) : List Feat → List Feat
 | [] => [f]
 | x :: l => if slt x.id f.id = true then x :: co7 f l else f :: i37 (x :: l) f.id
theorem uj7 {a b : Str} (h : slt a b = true) : a ≠ b := fun e => by
 rw [e, slt_sw.irrefl] at h
 cases h
theorem jH7 {x : Feat} {l : List Feat} {id : Str} : i37 (x :: l) id = if x.id = id then i37 l id else x :: i37 l id := by
 unfold i37
 rw [List.filter_cons]
 by_cases h : x.id = id <;> simp [h]
theorem kO7 {f : Feat} : ∀ (l : List Feat) (k : Nat) (v : List Feat), v.length + l.length ≤ 1048576 → cz7 f l k true v = some (true, v ++ i37 l f.id)
 | [], k, v, _ => by simp [cz7, i37]
 | x :: l, k, v, h => by
  simp only [List.length_cons] at h
  simp only [cz7, dw7, Bool.not_true, Bool.false_eq_true, if_false, Option.bind_some]
  rw [jH7]
  by_cases e : x.id = f.id
  ·rw [if_neg (by simp [e]), kO7 l (k + 1) v (by omega), if_pos e]
  ·rw [if_pos (by simp [e]), if_pos (ab7 (by simp; omega)), kO7 l (k + 1) _ (by simp; omega), if_neg e]
   simp
theorem uk7 {f : Feat} : ∀ (l : List Feat) (k : Nat) (v : List Feat), v.length + l.length + 1 ≤ 1048576 → ∃ d o, cz7 f l k false v = some (d, o) ∧ (if d = true then o else o ++ [f]) = v ++ co7 f l
 | [], k, v, _ => ⟨false, v, rfl, by simp [co7]⟩
 | x :: l, k, v, h => by
  simp only [List.length_cons] at h
  simp only [cz7, dw7, Bool.not_false, if_true, co7]
  by_cases e : slt x.id f.id = true
  ·have hn := uj7 e
   obtain ⟨d, o, h1, h2⟩ := uk7 l (k + 1) (v ++ [x]) (by simp; omega)
   refine ⟨d, o, ?_, by rw [h2, if_pos e]; simp⟩
   rw [if_neg (by simp [e]), Option.bind_some]
   simp only
   rw [if_pos (by simp [hn]), if_pos (ab7 (by simp; omega)), h1]
  ·rw [if_pos (by simpa using e), if_pos (ab7 (by simp; omega)), Option.bind_some]
   simp only
   rw [if_neg e, jH7]
   by_cases e2 : x.id = f.id
   ·rw [if_neg (by simp [e2]), kO7 l (k + 1) _ (by simp; omega), if_pos e2]
    exact ⟨true, _, rfl, by simp⟩
   ·rw [if_pos (by simp [e2]), if_pos (ab7 (by simp; omega)), kO7 l (k + 1) _ (by simp; omega), if_neg e2]
    exact ⟨true, _, rfl, by simp⟩
theorem i47 {f : Feat} : ∀ (l : List Feat), (co7 f l).length ≤ l.length + 1
 | [] => by simp [co7]
 | x :: l => by
  have := i47 (f := f) l
  have h2 : (i37 (x :: l) f.id).length ≤ (x :: l).length := List.length_filter_le _ _
  unfold co7
  split
  ·simp only [List.length_cons]; omega
  ·simp only [List.length_cons] at h2 ⊢; omega
theorem yF7 {s : List Feat} {f : Feat} (h : s.length + 1 ≤ 1048576) : f97 s f = some (co7 f s) := by
 obtain ⟨d, o, h1, h2⟩ := uk7 (f := f) s 0 [] (by simp; omega)
 have h3 := i47 (f := f) s
 simp only [List.nil_append] at h2
 unfold f97
 rw [if_pos (ab7 (by omega)), h1, Option.bind_some]
 cases d
 ·simp only [Bool.not_false, if_true]
  simp only [Bool.false_eq_true, if_false] at h2
  rw [if_pos (ab7 (by rw [h2]; omega)), h2]
 ·simp only [if_true] at h2
  simp [h2]
def Pw (v : List Feat) : Prop := v.Pairwise fun a b => slt a.id b.id = true
theorem i57 {f : Feat} : ∀ {l : List Feat} {y : Feat}, y ∈ co7 f l → y = f ∨ y ∈ l
 | [], y, h => by simpa [co7] using h
 | x :: l, y, h => by
  unfold co7 at h
  split at h
  ·rcases List.mem_cons.1 h with h | h
   ·exact .inr (by simp [h])
   ·rcases i57 h with h | h
    ·exact .inl h
    ·exact .inr (by simp [h])
  ·rcases List.mem_cons.1 h with h | h
   ·exact .inl h
   ·exact .inr (List.mem_filter.1 h).1
theorem jI7 {f : Feat} : ∀ {l : List Feat}, Pw l → Pw (co7 f l)
 | [], _ => by simp [co7, Pw]
 | x :: l, h => by
  unfold Pw at h
  rw [List.pairwise_cons] at h
  unfold co7
  by_cases e : slt x.id f.id = true
  ·rw [if_pos e]
   unfold Pw
   rw [List.pairwise_cons]
   refine ⟨fun y hy => ?_, jI7 h.2⟩
   rcases i57 hy with rfl | hy
   ·exact e
   ·exact h.1 y hy
  ·rw [if_neg e]
   unfold Pw
   rw [List.pairwise_cons]
   refine ⟨fun y hy => ?_, List.Pairwise.filter _ (List.pairwise_cons.2 h)⟩
   obtain ⟨hy, hn⟩ := List.mem_filter.1 hy
   simp only [Bool.not_eq_true', decide_eq_false_iff_not] at hn
   have hf : slt x.id f.id = false := by simpa using e
   have hxy : slt y.id f.id = false := by
    rcases List.mem_cons.1 hy with rfl | hy
    ·exact hf
    ·cases h2 : slt y.id f.id
     ·rfl
     ·rw [slt_sw.trans _ _ _ (h.1 y hy) h2] at hf; cases hf
   cases h3 : slt f.id y.id
   ·exact absurd (ox7 hxy h3) hn
   ·rfl
theorem mPut_perm {f : Feat} : ∀ {l : List Feat}, (co7 f l).Perm (f :: i37 l f.id)
 | [] => by simp [co7, i37]
 | x :: l => by
  unfold co7
  by_cases e : slt x.id f.id = true
  ·rw [if_pos e, jH7, if_neg (uj7 e)]
   exact (List.Perm.cons x mPut_perm).trans (List.Perm.swap f x _)
  ·rw [if_neg e]
theorem kP7 {v : List Feat} (h : Pw v) : (v.map (·.id)).Nodup := by
 unfold List.Nodup
 rw [List.pairwise_map]
 exact h.imp fun h => uj7 h
theorem cw7 {s : List Feat} (h : aQ7 s = true) : Pw s := by
 unfold aQ7 at h
 rw [Bool.and_eq_true] at h
 have key : ∀ k x y, s[k]? = some x → s[k + 1]? = some y → slt x.id y.id = true := by
  intro k x y hx hy
  have := cf7 h.1 (k + 1) y hy
  simp only [Nat.zero_add, Bool.and_eq_true, Bool.or_eq_true, decide_eq_true_eq, io7, Nat.add_sub_cancel, hx] at this
  rcases this.2 with h | h
  ·omega
  ·exact h
 clear h
 induction s with
 | nil => exact List.Pairwise.nil
 | cons a s ih =>
  have ih := ih fun k x y hx hy => key (k + 1) x y hx hy
  unfold Pw
  rw [List.pairwise_cons]
  refine ⟨?_, ih⟩
  cases s with
  | nil => intro y hy; cases hy
  | cons b s =>
   have h1 := key 0 a b rfl rfl
   have ih2 := ih
   unfold Pw at ih2
   rw [List.pairwise_cons] at ih2
   intro y hy
   rcases List.mem_cons.1 hy with rfl | hy
   ·exact h1
   ·exact slt_sw.trans _ _ _ h1 (ih2.1 y hy)
theorem ul7 {o : List Feat} {id : Str} (h : o.find? (fun f : Feat => decide (f.id = id)) = none) : i37 o id = o := List.filter_eq_self.2 fun z hz => by
 have := List.find?_eq_none.1 h z hz
 simpa using this
theorem P57 {v : List Feat} {id : Str} : wL aU7 (i37 v id) ≤ wL aU7 v := L37 List.filter_sublist
theorem pb7 {α : Type} {w : α → Nat} {x : α} {l : List α} : wL w (x :: l) = wL w l + (1 + w x) := by unfold wL; simp only [gk7, List.length_cons]; omega
theorem B47 {f : Feat} : ∀ (l : List Feat), wL aU7 (co7 f l) ≤ wL aU7 l + (1 + aU7 f)
 | [] => by
  unfold co7
  rw [pb7]
  exact Nat.le_refl _
 | x :: l => by
  have h1 := B47 (f := f) l
  have h2 := P57 (v := x :: l) (id := f.id)
  unfold co7
  split
  ·rw [pb7, pb7]; omega
  ·rw [pb7]; omega
theorem nY7 {s : List Feat} {id : Str} : aU7 (bb7 s id).1 ≤ wL aU7 s := by
 unfold bb7
 split
 ·rename_i f hf
  have := bA7 (w := aU7) (List.mem_of_find?_eq_some hf)
  unfold wL
  simp only
  omega
 ·exact Nat.zero_le _
theorem hU7 {f : Feat} (h : cp7 f = true) : aU7 f ≤ 100 := by
 unfold cp7 f67 si7 at h
 simp only [Bool.and_eq_true, decide_eq_true_eq] at h
 obtain ⟨h1, ⟨h2, h3, h4⟩, h5, h6⟩ := h
 have a1 := dQ7 h1
 have a2 : gk7 u07 f.tags ≤ 14 * f.tags.length := jF7 fun t ht => by
  obtain ⟨j, hj⟩ := Mw7 h5 ht
  simp only [Bool.and_eq_true] at hj
  have b1 := dQ7 hj.1
  have b2 := dQ7 hj.2.1
  unfold u07
  omega
 have a3 := tw7 f.shape.pts
 unfold aU7 im7 wL
 omega
theorem vq7 {o v : List Feat} (ho : o.Perm v) (hp : Pw v) (hl : o.length ≤ 1048576) : p47 o = some v := by
 have hn : (o.map (·.id)).Nodup := ((ho.map (·.id)).nodup_iff).2 (kP7 hp)
 unfold p47
 rw [if_pos (by rw [ab7 hl, decide_eq_true hn]; rfl)]
 congr 1
 refine ty7 hn ho.symm (hp.imp fun {a b} h => ?_)
 unfold leF
 cases h2 : slt b.id a.id
 ·rfl
 ·have := slt_sw.trans _ _ _ h h2
  rw [slt_sw.irrefl] at this
  cases this
def SPw (v : List Str) : Prop := v.Pairwise fun a b => slt a b = true
theorem rB7 {v : List Str} (h : SPw v) : v.Nodup := List.Pairwise.imp (fun h => uj7 h) h
theorem E37 {a b : List Str} (ha : SPw a) (hb : SPw b) (h : ∀ x, x ∈ a ↔ x ∈ b) : a = b := by
 have hp : a.Perm b := (List.perm_ext_iff_of_nodup (rB7 ha) (rB7 hb)).2 h
 refine List.Perm.eq_of_pairwise (le := fun a b => slt a b = true) (fun x y _ _ g1 g2 => ?_) ha hb hp
 have := slt_sw.trans _ _ _ g1 g2
 rw [slt_sw.irrefl] at this
 cases this
theorem yG7 (a b c : Str) : leS a b = true → leS b c = true → leS a c = true := by
 unfold leS
 simp only [Bool.not_eq_true']
 exact fun h1 h2 => slt_sw.ntrans _ _ _ h2 h1
theorem yH7 (a b : Str) : (leS a b || leS b a) = true := by
 unfold leS
 cases h : slt b a
 ·rfl
 ·cases h2 : slt a b
  ·rfl
  ·have := slt_sw.trans _ _ _ h h2
   rw [slt_sw.irrefl] at this
   cases this
theorem B57 {a b : Str} (h : leS a b = true) (hn : a ≠ b) : slt a b = true := by
 unfold leS at h
 cases h2 : slt a b
 ·exact absurd (ox7 h2 (by simpa using h)) hn
 ·rfl
theorem L57 {a b c : Str} (h : leS a b = true) (h2 : slt b c = true) : slt a c = true := by
 by_cases e : a = b
 ·rw [e]; exact h2
 ·exact slt_sw.trans _ _ _ (B57 h e) h2
theorem A37 {xs : List Str} {y : Str} : y ∈ Go.Lib.compact xs ↔ y ∈ xs := by
 unfold Go.Lib.compact Go.Lib.compactUpTo
 rw [List.mem_map]
 constructor
 ·rintro ⟨j, hj, rfl⟩
  rw [List.mem_filter, List.mem_range] at hj
  rw [getElem!_pos _ j (by simpa using hj.1)]
  simp
 ·intro h
  obtain ⟨j, hj⟩ := List.mem_iff_getElem?.1 h
  induction j using Nat.strongRecOn with
  | _ j ih =>
   have hl := (List.getElem?_eq_some_iff.1 hj).1
   have he := (List.getElem?_eq_some_iff.1 hj).2
   by_cases hk : j = 0 ∨ xs.toArray[j]! ≠ xs.toArray[j - 1]!
   ·refine ⟨j, ?_, ?_⟩
    ·rw [List.mem_filter, List.mem_range]
     exact ⟨hl, by unfold Go.Lib.keeps; exact decide_eq_true hk⟩
    ·rw [getElem!_pos _ j (by simpa using hl)]
     simpa using he
   ·have h0 : j ≠ 0 := fun e => hk (.inl e)
    have h1 : xs.toArray[j]! = xs.toArray[j - 1]! := Classical.not_not.1 fun e => hk (.inr e)
    rw [getElem!_pos _ j (by simpa using hl), getElem!_pos _ (j - 1) (by simp; omega)] at h1
    simp only [List.getElem_toArray] at h1
    refine ih (j - 1) (by omega) ?_
    rw [List.getElem?_eq_getElem (by omega), ← h1, he]
theorem E47 {xs : List Str} (h : xs.Pairwise fun a b => leS a b = true) : SPw (Go.Lib.compact xs) := by
 unfold Go.Lib.compact Go.Lib.compactUpTo SPw
 rw [List.pairwise_map, List.pairwise_filter]
 have hr := List.pairwise_lt_range (n := xs.length)
 refine List.Pairwise.imp_of_mem (fun {i j} hi hj hij _ hk => ?_) hr
 rw [List.mem_range] at hi hj
 rw [List.pairwise_iff_getElem] at h
 unfold Go.Lib.keeps at hk
 have hk := of_decide_eq_true hk
 rw [getElem!_pos _ i (by simpa using hi), getElem!_pos _ j (by simpa using hj)]
 rw [getElem!_pos _ j (by simpa using hj), getElem!_pos _ (j - 1) (by simp; omega)] at hk
 simp only [List.getElem_toArray] at hk ⊢
 have hne : xs[j] ≠ xs[j - 1] := by
  rcases hk with hk | hk
  ·omega
  ·exact hk
 have h1 : slt xs[j - 1] xs[j] = true := B57 (h (j - 1) j (by omega) hj (by omega)) (Ne.symm hne)
 by_cases e : i = j - 1
 ·subst e; exact h1
 ·exact L57 (h i (j - 1) hi (by omega) (by omega)) h1
def Fm7 (a b : List Feat) : List Str := (b.foldl (fun v x => co7 x v) a).map (·.id)
theorem yI7 {f : Feat} : ∀ {l : List Feat} {i : Str}, i ∈ (co7 f l).map (·.id) ↔ i = f.id ∨ i ∈ l.map (·.id) := by
 intro l i
 have hp := (mPut_perm (f := f) (l := l)).map (·.id)
 rw [hp.mem_iff, List.map_cons, List.mem_cons]
 constructor
 ·rintro (h | h)
  ·exact .inl h
  ·obtain ⟨y, hy, e⟩ := List.mem_map.1 h
   exact .inr (List.mem_map.2 ⟨y, (List.mem_filter.1 hy).1, e⟩)
 ·rintro (h | h)
  ·exact .inl h
  ·by_cases e : i = f.id
   ·exact .inl e
   ·obtain ⟨y, hy, e2⟩ := List.mem_map.1 h
    refine .inr (List.mem_map.2 ⟨y, List.mem_filter.2 ⟨hy, ?_⟩, e2⟩)
    have : ¬ y.id = f.id := fun e3 => e (by rw [← e2, e3])
    simp [this]
theorem pc7 : ∀ {b a : List Feat} {i : Str}, i ∈ (b.foldl (fun v x => co7 x v) a).map (·.id) ↔ i ∈ a.map (·.id) ∨ i ∈ b.map (·.id)
 | [], a, i => by simp
 | x :: b, a, i => by
  rw [List.foldl_cons, pc7, yI7, List.map_cons, List.mem_cons]
  constructor
  ·rintro ((h | h) | h)
   ·exact .inr (.inl h)
   ·exact .inl h
   ·exact .inr (.inr h)
  ·rintro (h | h | h)
   ·exact .inl (.inr h)
   ·exact .inl (.inl h)
   ·exact .inr h
theorem sN7 : ∀ {b a : List Feat}, Pw a → Pw (b.foldl (fun v x => co7 x v) a)
 | [], a, h => h
 | x :: b, a, h => sN7 (b := b) (jI7 h)
theorem E57 {a b : List Feat} (h : Pw a) : SPw (Fm7 a b) := by
 unfold Fm7 SPw
 rw [List.pairwise_map]
 exact sN7 h
theorem A47 {a b : List Feat} (ha : a.length + b.length ≤ 1000) : qt7 a b = some (Fm7 a b) := by
 have k1 : ∀ (l : List Feat) (k : Nat) (v : List Feat), v.length + l.length ≤ 1000 → fv7 l k v = some (l.foldl (fun v x => co7 x v) v) ∧ (l.foldl (fun v x => co7 x v) v).length ≤ v.length + l.length := by
  intro l
  induction l with
  | nil => intro k v _; exact ⟨rfl, by simp⟩
  | cons x l ih =>
   intro k v h
   simp only [List.length_cons] at h
   have hp := i47 (f := x) v
   obtain ⟨h1, h2⟩ := ih (k + 1) (co7 x v) (by omega)
   exact ⟨by simp only [fv7, yF7 (s := v) (f := x) (by omega), Option.bind_some, h1, List.foldl_cons], by simp only [List.length_cons, List.foldl_cons]; omega⟩
 have k2 : ∀ (l : List Feat) (k : Nat) (v : List Str), v.length + l.length ≤ 1000 → el7 l k v = some (v ++ l.map (·.id)) := by
  intro l
  induction l with
  | nil => intro k v _; simp [el7]
  | cons x l ih =>
   intro k v h
   simp only [List.length_cons] at h
   simp only [el7]
   rw [if_pos (ab7 (by simp; omega)), ih _ _ (by simp; omega)]
   simp
 obtain ⟨h1, h2⟩ := k1 b 0 a (by omega)
 unfold qt7
 rw [if_pos (ab7 (by omega)), h1, Option.bind_some, if_pos (ab7 (by omega)), k2 _ 0 [] (by simp; omega)]
 rfl
theorem L67 {α : Type} {p : α → Prop} [DecidablePred p] {xs : List α} {x : α} (h : xs.find? (fun y => decide (p y)) = some x) : p x := of_decide_eq_true (List.find?_some (p := fun y => decide (p y)) h)
theorem A57 {α β : Type} {f : α → β} {xs : List α} (h : (xs.map f).Nodup) {i j : Nat} {x y : α} (hi : xs[i]? = some x) (hj : xs[j]? = some y) (e : f x = f y) : i = j :=
 (List.getElem?_inj (by have := (List.getElem?_eq_some_iff.1 hi).1; simpa using this) h).1 (by rw [List.getElem?_map, List.getElem?_map, hi, hj]; simp [e])
theorem nZ7 {v : List Feat} (h : (v.map (·.id)).Nodup) : v.Nodup := List.Pairwise.of_map (·.id) (fun a b h e => h (congrArg _ e)) h
theorem rC7 {s : List Feat} {f : Feat} (hp : Pw s) (h : f ∈ s) : bb7 s f.id = (f, true) := by
 unfold bb7
 cases hf : s.find? (fun g : Feat => decide (g.id = f.id)) with
 | none =>
  have := List.find?_eq_none.1 hf f h
  simp at this
 | some g =>
  have h1 := List.mem_of_find?_eq_some hf
  have h2 := L67 (p := fun g : Feat => g.id = f.id) hf
  obtain ⟨i, hi⟩ := List.mem_iff_getElem?.1 h1
  obtain ⟨j, hj⟩ := List.mem_iff_getElem?.1 h
  have e : i = j := A57 (kP7 hp) hi hj h2
  subst e
  rw [hi] at hj
  cases hj
  rfl
theorem dh7 (s : List Feat) (i : Str) : (bb7 s i = (nF, false) ∧ ∀ f ∈ s, f.id ≠ i) ∨ ∃ f ∈ s, f.id = i ∧ bb7 s i = (f, true) := by
 unfold bb7
 cases hf : s.find? (fun g : Feat => decide (g.id = i)) with
 | none => exact .inl ⟨rfl, fun f h => by simpa using List.find?_eq_none.1 hf f h⟩
 | some g => exact .inr ⟨g, List.mem_of_find?_eq_some hf, L67 (p := fun g : Feat => g.id = i) hf, rfl⟩
theorem gM7 {s : List Feat} {i : Str} (h : ∀ f ∈ s, f.id ≠ i) : bb7 s i = (nF, false) := by
 rcases dh7 s i with ⟨h1, _⟩ | ⟨f, hf, he, _⟩
 ·exact h1
 ·exact absurd he (h f hf)
theorem sO7 {s : List Feat} {f : Feat} {i : Str} (hp : Pw s) (h : f ∈ s) (e : f.id = i) : bb7 s i = (f, true) := e ▸ rC7 hp h
theorem L77 {v w : List Feat} (hv : Pw v) (hw : Pw w) (h : ∀ i, bb7 v i = bb7 w i) : v = w := by
 have key : ∀ {a b : List Feat}, Pw a → Pw b → (∀ i, bb7 a i = bb7 b i) → ∀ x, x ∈ a → x ∈ b := by
  intro a b ha hb h x hx
  have h1 := rC7 ha hx
  rw [h] at h1
  rcases dh7 b x.id with ⟨h2, _⟩ | ⟨f, hf, _, h2⟩
  ·rw [h2] at h1; cases h1
  ·rw [h2] at h1; cases h1; exact hf
 have hp : v.Perm w := (List.perm_ext_iff_of_nodup (nZ7 (kP7 hv)) (nZ7 (kP7 hw))).2 fun x => ⟨key hv hw h x, key hw hv (fun i => (h i).symm) x⟩
 refine List.Perm.eq_of_pairwise (le := fun (a b : Feat) => slt a.id b.id = true) (fun x y _ _ g1 g2 => ?_) hv hw hp
 have := slt_sw.trans _ _ _ g1 g2
 rw [slt_sw.irrefl] at this
 cases this
theorem E67 {v : List Feat} {i : Str} {f : Feat} : f ∈ i37 v i ↔ f ∈ v ∧ f.id ≠ i := by
 unfold i37
 rw [List.mem_filter]
 simp
theorem sP7 {f : Feat} {v : List Feat} {x : Feat} : x ∈ co7 f v ↔ x = f ∨ (x ∈ v ∧ x.id ≠ f.id) := by
 rw [mPut_perm.mem_iff, List.mem_cons, E67]
theorem dN7 {v : List Feat} {f : Feat} {j : Str} (h : Pw v) : bb7 (co7 f v) j = if j = f.id then (f, true) else bb7 v j := by
 by_cases e : j = f.id
 ·rw [if_pos e]
  exact sO7 (jI7 h) (sP7.2 (.inl rfl)) e.symm
 ·rw [if_neg e]
  rcases dh7 v j with ⟨h1, h2⟩ | ⟨x, hx, he, h1⟩
  ·rw [h1]
   refine gM7 fun x hx => ?_
   rcases sP7.1 hx with rfl | hx
   ·exact fun h => e h.symm
   ·exact h2 x hx.1
  ·rw [h1]
   exact sO7 (jI7 h) (sP7.2 (.inr ⟨hx, by rw [he]; exact e⟩)) he
def L87 (a b : List Pt) : Int := (du7 a b 0).headD 0
def prs (a b : List Pt) : Nat → Nat → Nat → List d67
 | 0, _, _ => []
 | n + 1, i, k => match a[i]?, b[k]? with
  | some x, some y => if x = y then ⟨(i : Int), (k : Int)⟩ :: prs a b n (i + 1) (k + 1) else if L87 (a.drop i) (b.drop (k + 1)) ≤ L87 (a.drop (i + 1)) (b.drop k) then prs a b n (i + 1) k else prs a b n i (k + 1)
  | _, _ => []
def B67 (a b : List Pt) : List d67 := prs a b (a.length + b.length) 0 0
def prt (p : List d67) (i : Nat) : Option Nat := (p.find? fun q => decide (q.a = (i : Int))).map fun q => q.b.toNat
def pick (o a b : List Pt) : Option (List Pt) := if a = o then some b else if b = o then some a else if a = b then some a else none
def Mx7 (l : List Pt) (i j : Nat) : List Pt := (l.take j).drop i
def mg (o a b : List Pt) (pa pb : List d67) : Nat → Nat → Nat → Nat → Nat → List Pt → Option (List Pt)
 | 0, at_, i, j, k, out => (pick (Mx7 o i at_) (a.drop j) (b.drop k)).map fun p => out ++ p
 | n + 1, at_, i, j, k, out => match prt pa at_, prt pb at_ with
  | some x, some y => (pick (Mx7 o i at_) (Mx7 a j x) (Mx7 b k y)).bind fun p => mg o a b pa pb n (at_ + 1) (at_ + 1) (x + 1) (y + 1) (out ++ p ++ (o[at_]?).toList)
  | _, _ => mg o a b pa pb n (at_ + 1) i j k out
def L97 (o a b : List Pt) : Option (List Pt) := mg o a b (B67 o a) (B67 o b) o.length 0 0 0 0 []
def UpP (p : List d67) : Prop := p.Pairwise fun q r => q.a < r.a ∧ q.b < r.b
structure OkP (p : List d67) (n : Nat) : Prop where
 up : UpP p
 rg : ∀ q, q ∈ p → 0 ≤ q.a ∧ 0 ≤ q.b ∧ q.b < n
theorem A67 {p : List d67} {n i v : Nat} (h : OkP p n) (hv : prt p i = some v) : v < n ∧ ∃ q, q ∈ p ∧ q.a = (i : Int) ∧ q.b = (v : Int) := by
 unfold prt at hv
 cases hf : p.find? fun q => decide (q.a = (i : Int)) with
 | none => rw [hf] at hv; cases hv
 | some q =>
  rw [hf] at hv
  simp only [Option.map_some, Option.some.injEq] at hv
  have hm := List.mem_of_find?_eq_some hf
  have ha : q.a = (i : Int) := by simpa using List.find?_some hf
  have hr := h.rg q hm
  exact ⟨by omega, q, hm, ha, by omega⟩
def Bh (p : List d67) (at_ j : Nat) : Prop := ∀ q, q ∈ p → (at_ : Int) ≤ q.a → (j : Int) ≤ q.b
theorem Bh.skip {p : List d67} {at_ j : Nat} (h : Bh p at_ j) : Bh p (at_ + 1) j := fun q hq h2 => h q hq (by omega)
theorem Bh.le {p : List d67} {n at_ j v : Nat} (hb : Bh p at_ j) (h : OkP p n) (hv : prt p at_ = some v) : j ≤ v := by
 obtain ⟨_, r, hr, e1, e2⟩ := A67 h hv
 have := hb r hr (by omega)
 omega
section
variable {o a b : List Pt} {pa pb : List d67}
end
def P67 (ts : List Tag) (k : Str) : Val := match ts.find? (fun t : Tag => decide (t.key = k)) with
 | some t => ⟨true, t.val⟩
 | none => ⟨false, ⟨#[]⟩⟩
def dO7 {α : Type} [DecidableEq α] (o a b : α) : α × Bool := if a = o then (b, true) else if b = o then (a, true) else if a = b then (a, true) else (a, false)
def Ra7 (o a b : Val) : Val × Bool := if (dO7 o a b).2 = true then dO7 o a b else (if a.has = true then a else b, false)
def Ma7 (o a b : List Tag) : List Str := Go.Lib.compact (((o ++ a ++ b).map (·.key)).mergeSort leS)
def QQ7 : Str := ⟨#[116, 97, 103, 32]⟩
def mT (o a b : Feat) (k : Str) : Val × Bool := Ra7 (P67 o.tags k) (P67 a.tags k) (P67 b.tags k)
def wOf (o a b : Feat) (k : Str) : List Str := if (mT o a b k).2 = true then [] else [QQ7 ++ k]
def tOf (o a b : Feat) (k : Str) : List Tag := if (mT o a b k).1.has = true then [⟨k, (mT o a b k).1.val⟩] else []
theorem rD7 {α : Type} [DecidableEq α] {o a b : α} : (dO7 o a b).1 = a ∨ (dO7 o a b).1 = b := by
 unfold dO7
 split
 ·exact .inr rfl
 ·split
  ·exact .inl rfl
  ·split <;> exact .inl rfl
section
variable {o a b : Feat}
theorem wf {k : Str} {p : Bool} (h : (mT o a b k).2 = p) : wOf o a b k = if p = true then [] else [QQ7 ++ k] := by
 unfold wOf
 rw [h]
theorem Mb7 {α β : Type} {f : α → List β} (h : ∀ x, (f x).length ≤ 1) : ∀ l : List α, (l.flatMap f).length ≤ l.length
 | [] => by simp
 | x :: l => by
  have h1 := h x
  have h2 := Mb7 h l
  simp only [List.flatMap_cons, List.length_append, List.length_cons]
  omega
end
def yJ7 (o a b : aS7) : aS7 × Bool := if (dO7 o a b).2 = true then dO7 o a b else if a.kind = b.kind ∧ a.kind = o.kind then (match L97 o.pts a.pts b.pts with
 | some p => if f67 ⟨a.kind, p⟩ = true then (⟨a.kind, p⟩, true) else (a, false)
 | none => (a, false)) else (a, false)
def shW : Str := ⟨#[115, 104, 97, 112, 101]⟩
def P77 : Str := ⟨#[109, 117, 99, 104]⟩
def fjF (o a b : Feat) : Feat := ⟨a.id, (yJ7 o.shape a.shape b.shape).1, (Ma7 o.tags a.tags b.tags).flatMap (tOf o a b)⟩
def fjW (o a b : Feat) : List Str := (if (yJ7 o.shape a.shape b.shape).2 = true then [] else [shW]) ++ (Ma7 o.tags a.tags b.tags).flatMap (wOf o a b)
def mFJ (o a b : Feat) : Feat × List Str := if cp7 (fjF o a b) = true then (fjF o a b, fjW o a b) else (a, [P77])
theorem mh7 {α : Type} {w : α → Nat} {c : Nat} : ∀ {l : List α}, (∀ x, x ∈ l → w x ≤ c) → gk7 w l ≤ l.length * c
 | [], h => by simp [gk7]
 | x :: l, h => by
  have h1 := h x (by simp)
  have h2 := mh7 (l := l) fun y hy => h y (by simp [hy])
  simp only [gk7, List.length_cons, Nat.add_mul]
  omega
def A77 : Str := ⟨#[103, 111, 110, 101]⟩
def Mc7 : Str := ⟨#[98, 111, 116, 104]⟩
def mJ1 (o a b : Feat × Bool) : (Feat × Bool) × List Str :=
 if (dO7 o a b).2 = true then ((dO7 o a b).1, [])
 else if a.2 = false then ((b.1, true), [A77])
 else if b.2 = false then ((a.1, true), [A77])
 else if o.2 = false then ((a.1, true), [Mc7])
 else (((mFJ o.1 a.1 b.1).1, true), (mFJ o.1 a.1 b.1).2)
def bT7 (o a b : List Feat) (id : Str) : (Feat × Bool) × List Str := mJ1 (bb7 o id) (bb7 a id) (bb7 b id)
def jJ7 (o a b : List Feat) : List Str := Fm7 (a.foldl (fun v x => co7 x v) o) b
theorem um7 {o a b : List Feat} (h : Pw o) : SPw (jJ7 o a b) := E57 (sN7 h)
theorem rE7 {o a b : List Feat} {i : Str} : i ∈ jJ7 o a b ↔ i ∈ o.map (·.id) ∨ i ∈ a.map (·.id) ∨ i ∈ b.map (·.id) := by
 unfold jJ7 Fm7
 rw [pc7, pc7, or_assoc]
theorem A87 {o a b : List Feat} (hp : Pw o) (ha : o.length + a.length + b.length ≤ 1000) : qM7 [o, a, b] = some (jJ7 o a b) := by
 have k5 : ∀ (l : List Feat) (k : Nat) (v : List Str), v.length + l.length ≤ 1000 → ey7 l k v = some (v ++ l.map (·.id)) := by
  intro l
  induction l with
  | nil => intro k v _; simp [ey7]
  | cons x l ih =>
   intro k v h
   simp only [List.length_cons] at h
   simp only [ey7]
   rw [if_pos (ab7 (by simp; omega)), ih _ _ (by simp; omega)]
   simp
 have hm : ((o.map (·.id) ++ a.map (·.id) ++ b.map (·.id)).mergeSort leS).length ≤ 1000 := by rw [List.length_mergeSort]; simp; omega
 unfold qM7
 simp only [g37, ab7 (n := [o, a, b].length) (by simp), ab7 (n := o.length) (by omega), ab7 (n := a.length) (by omega), ab7 (n := b.length) (by omega), k5 o 0 [] (by simp; omega), k5 a 0 (o.map (·.id)) (by simp; omega), k5 b 0 (o.map (·.id) ++ a.map (·.id)) (by simp; omega), if_true, Option.bind_some, List.nil_append, tV7, sc7, ab7 (n := (o.map (·.id) ++ a.map (·.id) ++ b.map (·.id)).length) (by simp; omega), xA7, wU7, ab7 (n := ((o.map (·.id) ++ a.map (·.id) ++ b.map (·.id)).mergeSort leS).length) (by omega)]
 congr 1
 refine E37 (E47 (List.pairwise_mergeSort yG7 yH7 _)) (um7 hp) fun x => ?_
 rw [A37, (List.mergeSort_perm _ leS).mem_iff, List.mem_append, List.mem_append, rE7, or_assoc]
theorem kQ7 : ∀ {l v : List Feat}, (l.foldl (fun v x => co7 x v) v).length ≤ v.length + l.length
 | [], v => by simp
 | x :: l, v => by
  have h1 := i47 (f := x) v
  have h2 := kQ7 (l := l) (v := co7 x v)
  simp only [List.foldl_cons, List.length_cons]
  omega
theorem E77 {o a b : List Feat} (ha : o.length + a.length + b.length ≤ 1000) : qv7 o a b = some (jJ7 o a b) := by
 have k1 : ∀ (l : List Feat) (k : Nat) (v : List Feat), v.length + l.length ≤ 1000 → fy7 l k v = some (l.foldl (fun v x => co7 x v) v) := by
  intro l
  induction l with
  | nil => intro k v _; rfl
  | cons x l ih =>
   intro k v h
   simp only [List.length_cons] at h
   have hp := i47 (f := x) v
   simp only [fy7]
   rw [yF7 (by omega), Option.bind_some, ih (k + 1) (co7 x v) (by omega), List.foldl_cons]
 have hl := kQ7 (l := a) (v := o)
 unfold qv7 jJ7
 rw [if_pos (ab7 (by omega)), k1 a 0 o (by omega), Option.bind_some, A47 (by omega)]
 rfl
theorem mi7 {o a b : List Feat} : (jJ7 o a b).length ≤ o.length + a.length + b.length := by
 have h1 := kQ7 (l := a) (v := o)
 have h2 := kQ7 (l := b) (v := a.foldl (fun v x => co7 x v) o)
 unfold jJ7 Fm7
 rw [List.length_map]
 omega
theorem cX7 {s : List Feat} {id : Str} (h : ∀ f, f ∈ s → cp7 f = true) (h2 : (bb7 s id).2 = true) : cp7 (bb7 s id).1 = true := by
 unfold bb7 at h2 ⊢
 split
 ·rename_i f e
  exact h f (List.mem_of_find?_eq_some e)
 ·rename_i e
  rw [e] at h2
  cases h2
theorem eQ7 {s : List Feat} {id : Str} (h : (bb7 s id).2 = false) : bb7 s id = (nF, false) := by
 unfold bb7 at h ⊢
 split
 ·rename_i f e
  rw [e] at h
  cases h
 ·rfl
theorem d47 {s : List Feat} (h : aQ7 s = true) : ∀ f, f ∈ s → cp7 f = true := fun f hf => by
 unfold aQ7 at h
 rw [Bool.and_eq_true] at h
 obtain ⟨j, hj⟩ := Mw7 h.1 hf
 rw [Bool.and_eq_true] at hj
 exact hj.1
def oF (o a b : List Feat) (id : Str) : List Feat := if (bT7 o a b id).1.2 = true then [(bT7 o a b id).1.1] else []
def oC (o a b : List Feat) (id : Str) : List aG7 := (bT7 o a b id).2.map fun w => ⟨id, w⟩
def sjF (o a b : List Feat) : List Feat := (jJ7 o a b).flatMap (oF o a b)
def sjC (o a b : List Feat) : List aG7 := (jJ7 o a b).flatMap (oC o a b)
def mSJ (o a b : List Feat) : List Feat × List aG7 × Bool := if (aQ7 o && (aQ7 a && (aQ7 b && aQ7 (sjF o a b)))) = true then (sjF o a b, sjC o a b, true) else ([], [], false)
theorem A97 {o a b : Feat} (ha : cp7 a = true) : cp7 (mFJ o a b).1 = true := by
 unfold mFJ
 split
 ·assumption
 ·exact ha
section
variable {o a b : List Feat}
structure Sh (s : List Feat) : Prop where
 w : wL aU7 s ≤ 1048576
 f : ∀ f, f ∈ s → cp7 f = true
theorem yK7 (ho : Sh o) (ha : Sh a) (hb : Sh b) (id : Str) (h : (bT7 o a b id).1.2 = true) : cp7 (bT7 o a b id).1.1 = true := by
 have n1 := eQ7 (s := o) (id := id)
 have n2 := eQ7 (s := a) (id := id)
 have n3 := eQ7 (s := b) (id := id)
 have m1 := cX7 (id := id) ho.f
 have m2 := cX7 (id := id) ha.f
 have m3 := cX7 (id := id) hb.f
 unfold bT7 at h ⊢
 generalize bb7 o id = so at *
 generalize bb7 a id = sa at *
 generalize bb7 b id = sb at *
 unfold mJ1 at h ⊢
 split at h
 ·rename_i ht
  rw [if_pos ht]
  rcases rD7 (o := so) (a := sa) (b := sb) with e | e
  ·rw [e] at h ⊢; exact m2 h
  ·rw [e] at h ⊢; exact m3 h
 ·rename_i ht
  rw [if_neg ht]
  by_cases h1 : sa.2 = false
  ·rw [if_pos h1]
   apply m3
   cases hb2 : sb.2 with
   | true => rfl
   | false =>
    exfalso
    apply ht
    have e : sa = sb := by rw [n2 h1, n3 hb2]
    unfold dO7
    rw [e]
    by_cases q : sb = so <;> simp [q]
  ·rw [if_neg h1]
   have h1 : sa.2 = true := by cases h : sa.2 <;> simp_all
   split
   ·exact m2 h1
   ·split
    ·exact m2 h1
    ·exact A97 (m2 h1)
theorem un7 (id : Str) : (oF o a b id).length ≤ 1 := by
 unfold oF
 split <;> simp
theorem cl5 {id : Str} : ∀ (l : List Str) (k : Nat) (v : List aG7), v.length + l.length ≤ 1048576 → eo7 id l k v = some (v ++ l.map fun w => ⟨id, w⟩)
 | [], k, v, _ => by simp [eo7]
 | x :: l, k, v, h => by
  simp only [List.length_cons] at h
  simp only [eo7]
  rw [if_pos (ab7 (by simp; omega)), cl5 l _ _ (by simp; omega)]
  simp
theorem of_ {id : Str} {p : Bool} (h : (bT7 o a b id).1.2 = p) : oF o a b id = if p = true then [(bT7 o a b id).1.1] else [] := by
 unfold oF
 rw [h]
end
theorem bD7 {s : List Feat} (h : aQ7 s = true) : s.length ≤ 8 := by
 unfold aQ7 at h
 rw [Bool.and_eq_true] at h
 exact of_decide_eq_true h.2
theorem mj7 {s : List Feat} (h : aQ7 s = true) : Sh s := by
 have hf := d47 h
 have hl := bD7 h
 have hw : gk7 aU7 s ≤ s.length * 100 := mh7 fun f hm => hU7 (hf f hm)
 exact ⟨by unfold wL; omega, hf⟩
section
variable {o a b : List Feat}
theorem E87 : (sjF o a b).length ≤ o.length + a.length + b.length := by
 have h1 := Mb7 (f := oF o a b) (fun k => un7 k) (jJ7 o a b)
 have h2 := mi7 (o := o) (a := a) (b := b)
 unfold sjF
 omega
theorem Ba7 (ho : Sh o) (ha : Sh a) (hb : Sh b) : ∀ f, f ∈ sjF o a b → cp7 f = true := fun f hf => by
 obtain ⟨id, _, h⟩ := List.mem_flatMap.1 hf
 unfold oF at h
 split at h
 ·rename_i h2
  rw [List.mem_singleton.1 h]
  exact yK7 ho ha hb id h2
 ·simp at h
theorem E97 (ho : aQ7 o = true) (ha : aQ7 a = true) (hb : aQ7 b = true) : wL aU7 (sjF o a b) ≤ 10000 := by
 have h1 := E87 (o := o) (a := a) (b := b)
 have l1 := bD7 ho; have l2 := bD7 ha; have l3 := bD7 hb
 have hw : gk7 aU7 (sjF o a b) ≤ (sjF o a b).length * 100 := mh7 fun f hm => hU7 (Ba7 (mj7 ho) (mj7 ha) (mj7 hb) f hm)
 unfold wL
 omega
def th (p : Feat × Bool) : dq7 := ⟨p.2, p.1⟩
theorem mk7 {s : List Feat} {id : Str} (h : wL aU7 s ≤ 1048576) : lP7 s id = some (th (bb7 s id)) := by
 unfold lP7
 rw [L47 h]
 rfl
theorem yL7 {p q : Feat × Bool} (h : aU7 p.1 ≤ 1048576) : lQ7 (th p) (th q) = some (decide (p = q)) := by
 obtain ⟨f, x⟩ := p
 obtain ⟨g, y⟩ := q
 unfold lQ7 th
 simp only
 rw [nQ7 (a := f) (b := g) h]
 cases x <;> cases y <;> simp
theorem Bb7 {o a b : Feat × Bool} (ha : aU7 a.1 ≤ 1048576) (hb : aU7 b.1 ≤ 1048576) : qO7 (th o) (th a) (th b) = some (th (dO7 o a b).1, (dO7 o a b).2) := by
 unfold qO7 dO7
 rw [yL7 ha, yL7 hb, yL7 ha]
 simp only [Option.bind_some]
 by_cases h1 : a = o
 ·simp [h1]
 ·by_cases h2 : b = o
  ·simp [h1, h2]
  ·by_cases h3 : a = b
   ·simp [h1, h2, h3]
   ·simp [h1, h2, h3]
theorem ml7 {s : List Feat} (id : Str) (h : (bb7 s id).2 = true) : (bb7 s id).1.id = id := by
 unfold bb7 at h ⊢
 split
 ·rename_i f e
  simpa using List.find?_some e
 ·rename_i e
  rw [e] at h
  cases h
end
section
variable {o a b : List Feat}
theorem Bc7 (h : (mSJ o a b).2.2 = true) : aQ7 (mSJ o a b).1 = true ∧ wL aU7 (mSJ o a b).1 ≤ 10000 := by
 unfold mSJ at h ⊢
 split
 ·rename_i hc
  simp only [Bool.and_eq_true] at hc
  exact ⟨hc.2.2.2, E97 hc.1 hc.2.1 hc.2.2.1⟩
 ·rename_i hc
  rw [if_neg hc] at h
  cases h
end
def B77 (r : an7) (k : Int) : List Feat := ((r.commits[k.toNat]?).map Commit.sheet).getD []
theorem cC7 {r : an7} {k : Nat} {x : Commit} (h : r.commits[k]? = some x) : B77 r (k : Int) = x.sheet := by
 unfold B77
 rw [Int.toNat_natCast, h]
 rfl
noncomputable def aw7 (r : an7) (a b : Int) : List Feat × List aG7 × Bool :=
 if (inR r a && inR r b) = true then mSJ (B77 r (cV7 r a b)) (B77 r a) (B77 r b) else ([], [], false)
theorem uo7 {r : an7} {a b : Int} (h : (aw7 r a b).2.2 = true) : aQ7 (aw7 r a b).1 = true ∧ wL aU7 (aw7 r a b).1 ≤ 10000 := by
 unfold aw7 at h ⊢
 split
 ·rename_i h1
  rw [if_pos h1] at h
  exact Bc7 h
 ·rename_i h1
  rw [if_neg h1] at h
  cases h
def n07 (r : an7) (i : Nat) (z : Head) (c : Commit) : Bool × an7 :=
 if bk7 r.commits c < 0 then (if r.commits.length = 14 then (false, r) else (true, ⟨r.commits ++ [c], c97 r.heads i z r.commits.length⟩)) else (true, ⟨r.commits, c97 r.heads i z (bk7 r.commits c)⟩)
theorem P87 {r : an7} {i : Nat} {z : Head} {c : Commit} (hw : be7 r ≤ 1048576) (hz : r.heads[i]? = some z) (hc : ax7 c ≤ 1048576) : kc7 r (i : Int) c = some (n07 r i z c) := by
 have hcw : wL ax7 r.commits ≤ 1048576 := by unfold be7 at hw; omega
 have hcl : r.commits.length ≤ 1048576 := by unfold wL at hcw; omega
 unfold kc7 n07
 rw [fS7 hcw]
 simp only [Option.bind_some]
 by_cases f1 : bk7 r.commits c < 0
 ·by_cases f2 : r.commits.length = 14
  ·simp [f1, f2]
  ·have f2' : ¬ ((r.commits.length : Int) = 14) := by omega
   have hfit : aI7 (r.commits.length + 1) = true := by unfold aI7; exact decide_eq_true (by omega)
   simp [f1, f2, f2', iV7 hc, al7, hz, hfit, c97]
 ·simp [f1, al7, hz, c97]
theorem Bd7 {c : Commit} (h : ax7 c ≤ 1048576) : j47 c = some c := by
 unfold ax7 wL at h
 unfold j47
 rw [if_pos (ab7 (by simp; omega)), o27 (by unfold wL; omega)]
 rfl
theorem up7 {r : an7} {i : Nat} {z : Head} {c : Commit} (hw : be7 r ≤ 1048576) (hz : r.heads[i]? = some z) (hc : ax7 c ≤ 1048576) (h : (n07 r i z c).1 = true) : ix7 r (i : Int) c = some (n07 r i z c).2 := by
 have hcw : wL ax7 r.commits ≤ 1048576 := by unfold be7 at hw; omega
 have hcl : r.commits.length ≤ 1048576 := by unfold wL at hcw; omega
 unfold ix7
 unfold n07 at h ⊢
 rw [kL7 hcw]
 simp only [Option.bind_some]
 by_cases f1 : bk7 r.commits c < 0
 ·by_cases f2 : r.commits.length = 14
  ·simp [f1, f2] at h
  ·have hfit : aI7 (r.commits.length + 1) = true := by unfold aI7; exact decide_eq_true (by omega)
   simp [f1, f2, Bd7 hc, al7, hz, hfit, c97]
 ·simp [f1, al7, hz, c97]
noncomputable def mJW (r : an7) (i : Nat) (z : Head) (b : Int) (t : Str) : an7 × List aG7 × Int :=
 if (aw7 r z.at_ b).2.2 = true then
  if (aw7 r z.at_ b).2.1 = [] then
   if (n07 r i z ⟨[z.at_, b], (aw7 r z.at_ b).1, t⟩).1 = true then ((n07 r i z ⟨[z.at_, b], (aw7 r z.at_ b).1, t⟩).2, [], 0) else (r, [], 5)
  else (r, (aw7 r z.at_ b).2.1, 3)
 else (r, [], 5)
open Classical in
noncomputable def mJH (r : an7) (n f t : Str) : an7 × List aG7 × Int :=
 if (ba7 r && a87 t) = true then
  match idx r.heads (aM7 r.heads n), idx r.heads (aM7 r.heads f) with
  | some z, some y =>
   if Anc r.commits z.at_.toNat y.at_.toNat then (r, [], 1)
   else if Anc r.commits y.at_.toNat z.at_.toNat then (⟨r.commits, c97 r.heads (aM7 r.heads n).toNat z y.at_⟩, [], 2)
   else mJW r (aM7 r.heads n).toNat z y.at_ t
  | _, _ => (r, [], 4)
 else (⟨[], []⟩, [], 6)
theorem yM7 {t : Str} (h : a87 t = true) : t.size ≤ 6 := by
 unfold a87 at h
 simp only [Bool.and_eq_true, decide_eq_true_eq] at h
 exact h.2.2
theorem mm7 {r : an7} {z : Head} {b : Int} {t : Str} (ht : a87 t = true) (h : (aw7 r z.at_ b).2.2 = true) : ax7 ⟨[z.at_, b], (aw7 r z.at_ b).1, t⟩ ≤ 20000 := by
 have h1 := uo7 h
 have h2 := yM7 ht
 unfold ax7
 simp [wL, gk7, w0] at h1 ⊢
 omega
open Classical in
theorem rF7 {r : an7} {n f t : Str} (hw : be7 r ≤ 1048576) (ht : t.size ≤ 1048576) (hJ : ∀ z y, idx r.heads (aM7 r.heads n) = some z → idx r.heads (aM7 r.heads f) = some y → nF7 r z.at_ y.at_ = some (aw7 r z.at_ y.at_)) : nH7 r n f t = some (mJH r n f t) := by
 have hh : r.heads.length ≤ 1048576 := by unfold be7 wL at hw; omega
 unfold nH7 mJH
 rw [iS7 hw, eF7 ht, hQ7 hw, cG7 hh, cG7 hh]
 simp only [Option.bind_some]
 by_cases hr : ba7 r = true
 ·by_cases h2 : a87 t = true
  ·have hl := do7 hr
   have hc := cg7 hr
   have hcl : r.commits.length ≤ 1048576 := by omega
   rw [hr, h2]
   rcases fW7 hr n with h | ⟨k, a, z, g1, g2, g3, g4, g5⟩
   ·rw [h]
    rfl
   ·rcases fW7 hr f with h' | ⟨j, b, y, q1, q2, q3, q4, q5⟩
    ·rw [h', g1, al7, g2]
     have e1 : ¬ ((k : Int) < 0) := by omega
     simp [e1, idx]
    ·have e1 : ¬ ((k : Int) < 0) := by omega
     have e2 : ¬ ((j : Int) < 0) := by omega
     have hj := hJ z y (by rw [g1, al7, g2]) (by rw [q1, al7, q2])
     rw [q4] at hj
     rw [g1, q1, al7, al7, g2, q2]
     simp only [Bool.not_true, Bool.and_self, Bool.false_eq_true, if_true, if_false, Option.bind_some, e1, e2, decide_false, g4, q4, Int.toNat_natCast, ro7 hc hcl g5, ro7 hc hcl q5, al7, e47 g5, e47 q5, decide_eq_true_eq]
     by_cases a1 : Anc r.commits a b
     ·rw [if_pos a1, if_pos a1]
     ·rw [if_neg a1, if_neg a1]
      by_cases a2 : Anc r.commits b a
      ·rw [if_pos a2, if_pos a2]
       rfl
      ·rw [if_neg a2, if_neg a2]
       unfold mJW
       rw [← g4] at *
       rw [hj, Option.bind_some]
       by_cases j1 : (aw7 r z.at_ b).2.2 = true
       ·by_cases j2 : (aw7 r z.at_ b).2.1 = []
        ·have hcm := mm7 (b := (b : Int)) h2 j1
         rw [P87 hw g2 (by omega)]
         simp only [j1, j2, Option.bind_some, Bool.not_true, Bool.false_eq_true, if_false, List.length_nil, if_true]
         cases hs : (n07 r k z ⟨[z.at_, (b : Int)], (aw7 r z.at_ b).1, t⟩).1
         ·have : (n07 r k z ⟨[z.at_, (b : Int)], (aw7 r z.at_ b).1, t⟩).2 = r := by
           unfold n07 at hs ⊢
           split at hs
           ·split at hs
            ·rename_i u1 u2
             rw [if_pos u1, if_pos u2]
            ·cases hs
           ·cases hs
          simp [this]
         ·simp
        ·have j2' : ((aw7 r z.at_ b).2.1.length : Int) > 0 := by
          have := List.length_pos_iff.2 j2
          omega
         simp only [j1, Bool.not_true, Bool.false_eq_true, if_false, j2', decide_true, if_true, j2]
       ·simp only [Bool.not_eq_true] at j1
        simp only [j1, Bool.not_false, if_true, Bool.false_eq_true, if_false]
  ·simp only [Bool.not_eq_true] at h2
   rw [hr, h2]
   rfl
 ·simp only [Bool.not_eq_true] at hr
  rw [hr]
  rfl
open Classical in
theorem mn7 {r : an7} {i k : Nat} (hw : be7 r ≤ 1048576) (hr : ba7 r = true) (hi : i < r.commits.length) (hk : k < r.commits.length) : nz7 r (i : Int) (k : Int) = some (decide (Anc r.commits k i)) := by
 have hl := do7 hr
 unfold nz7
 rw [t87 hw, Option.bind_some, hr, if_pos (by simp; omega), t87 hw, Option.bind_some, hr, if_pos (by simp; omega), jE7 (cg7 hr) (by omega) hk, Option.bind_some, al7, e47 hi]
 rfl
open Classical in
theorem rG7 {r : an7} {n f t : Str} (hw : be7 r ≤ 1048576) (ht : t.size ≤ 1048576) (hJ : ∀ z y, idx r.heads (aM7 r.heads n) = some z → idx r.heads (aM7 r.heads f) = some y → ny7 r z.at_ y.at_ = some (aw7 r z.at_ y.at_)) : nG7 r n f t = some (mJH r n f t) := by
 have hh : r.heads.length ≤ 1048576 := by unfold be7 wL at hw; omega
 unfold nG7 mJH
 rw [kM7 hw, eE7 ht, o37 hw, fT7 hh, fT7 hh]
 simp only [Option.bind_some]
 by_cases hr : ba7 r = true
 ·by_cases h2 : a87 t = true
  ·have hl := do7 hr
   have hc := cg7 hr
   have hcl : r.commits.length ≤ 1048576 := by omega
   have hcw : wL ax7 r.commits ≤ 1048576 := by unfold be7 at hw; omega
   rw [hr, h2]
   rcases fW7 hr n with h | ⟨k, a, z, g1, g2, g3, g4, g5⟩
   ·rw [h]
    rfl
   ·rcases fW7 hr f with h' | ⟨j, b, y, q1, q2, q3, q4, q5⟩
    ·rw [h', g1, al7, g2]
     have e1 : ¬ ((k : Int) < 0) := by omega
     simp [e1, idx]
    ·have e1 : ¬ ((k : Int) < 0) := by omega
     have e2 : ¬ ((j : Int) < 0) := by omega
     have hj := hJ z y (by rw [g1, al7, g2]) (by rw [q1, al7, q2])
     rw [q4] at hj
     rw [g1, q1, al7, al7, g2, q2]
     simp only [Bool.not_true, Bool.and_self, Bool.false_eq_true, if_true, if_false, Option.bind_some, e1, e2, decide_false, g4, q4, Int.toNat_natCast, mn7 hw hr g5 q5, mn7 hw hr q5 g5, decide_eq_true_eq]
     by_cases a1 : Anc r.commits a b
     ·rw [if_pos a1, if_pos a1]
     ·rw [if_neg a1, if_neg a1]
      by_cases a2 : Anc r.commits b a
      ·rw [if_pos a2, if_pos a2]
       rfl
      ·rw [if_neg a2, if_neg a2]
       unfold mJW tN7
       rw [← g4] at *
       rw [hj, Option.bind_some]
       by_cases j1 : (aw7 r z.at_ b).2.2 = true
       ·by_cases j2 : (aw7 r z.at_ b).2.1 = []
        ·have hcm := mm7 (b := (b : Int)) h2 j1
         rw [kL7 hcw]
         simp only [j1, j2, Option.bind_some, Bool.not_true, Bool.false_eq_true, if_false, List.length_nil, if_true]
         by_cases f1 : bk7 r.commits ⟨[z.at_, (b : Int)], (aw7 r z.at_ b).1, t⟩ < 0
         ·by_cases f2 : r.commits.length = 14
          ·simp [n07, f1, f2]
          ·have f2' : ¬ ((14 : Int) ≤ (r.commits.length : Int)) := by omega
           have hs : (n07 r k z ⟨[z.at_, (b : Int)], (aw7 r z.at_ b).1, t⟩).1 = true := by simp [n07, f1, f2]
           rw [up7 hw g2 (by omega) hs, hs]
           simp [f1, f2']
         ·have hs : (n07 r k z ⟨[z.at_, (b : Int)], (aw7 r z.at_ b).1, t⟩).1 = true := by simp [n07, f1]
          rw [up7 hw g2 (by omega) hs, hs]
          simp [f1]
        ·have j2' : ((aw7 r z.at_ b).2.1.length : Int) > 0 := by
          have := List.length_pos_iff.2 j2
          omega
         simp only [j1, Bool.not_true, Bool.false_eq_true, if_false, j2', decide_true, if_true, j2, Option.bind_some]
       ·simp only [Bool.not_eq_true] at j1
        simp only [j1, Bool.not_false, if_true, Bool.false_eq_true, if_false, Option.bind_some]
  ·simp only [Bool.not_eq_true] at h2
   rw [hr, h2]
   rfl
 ·simp only [Bool.not_eq_true] at hr
  rw [hr]
  rfl
theorem rH7 {hs : List Head} {i : Nat} {h : Head} {v : Int} (hh : hs[i]? = some h) : wL gl7 (c97 hs i h v) ≤ wL gl7 hs := by
 have := o47 (w := gl7) hs i h ⟨h.name, v⟩ hh (Nat.le_refl _)
 unfold wL c97
 simp only [List.length_set]
 omega
theorem Md7 {r : an7} {i : Nat} {z : Head} {c : Commit} (hz : r.heads[i]? = some z) : be7 (n07 r i z c).2 ≤ be7 r + (1 + ax7 c) := by
 unfold n07
 split
 ·split
  ·exact Nat.le_add_right _ _
  ·have h1 := rH7 (v := r.commits.length) hz
   have h2 := iW7 (w := ax7) r.commits c
   unfold be7
   unfold wL at *
   simp only [List.length_append, List.length_singleton]
   omega
 ·have h1 := rH7 (v := bk7 r.commits c) hz
  unfold be7
  simp only
  omega
theorem yN7 {β : Type} {key : β → Str} {f : Str → List β} (h1 : ∀ k, (f k).length ≤ 1) (hk : ∀ k x, x ∈ f k → key x = k) : ∀ {l : List Str}, SPw l → (l.flatMap f).Pairwise fun x y => slt (key x) (key y) = true
 | [], _ => List.Pairwise.nil
 | k :: l, h => by
  unfold SPw at h
  rw [List.pairwise_cons] at h
  rw [List.flatMap_cons, List.pairwise_append]
  refine ⟨?_, yN7 h1 hk h.2, fun x hx y hy => ?_⟩
  ·match hf : f k, h1 k with
   | [], _ => exact List.Pairwise.nil
   | [x], _ => exact List.pairwise_singleton _ _
   | x :: y :: r, hl => simp [hf] at hl
  ·obtain ⟨j, hj, hy⟩ := List.mem_flatMap.1 hy
   rw [hk k x hx, hk j y hy]
   exact h.1 j hj
theorem Fa7 {α : Type} {key : α → Str} {s : List α} (h : s.Pairwise fun x y => slt (key x) (key y) = true) {k : Nat} {x : α} (hx : s[k]? = some x) : (decide (k = 0) || io7 key s x k) = true := by
 cases k with
 | zero => rfl
 | succ k =>
  have hk := cn7 hx
  obtain ⟨y, hy⟩ := gJ7 (xs := s) (i := k) (by omega)
  unfold io7
  rw [Nat.add_sub_cancel, hy]
  have h2 := List.pairwise_iff_getElem.1 h k (k + 1) (by omega) hk (by omega)
  obtain ⟨_, e1⟩ := List.getElem?_eq_some_iff.1 hy
  obtain ⟨_, e2⟩ := List.getElem?_eq_some_iff.1 hx
  rw [e1, e2] at h2
  simp [h2]
theorem Be7 {s : List Feat} (hf : ∀ f, f ∈ s → cp7 f = true) (hp : Pw s) (hl : s.length ≤ 8) : aQ7 s = true := by
 unfold aQ7
 rw [Bool.and_eq_true]
 refine ⟨g67 fun j x hx => ?_, decide_eq_true hl⟩
 rw [Nat.zero_add, hf x (List.mem_of_getElem? hx), Fa7 (key := Feat.id) hp hx]
 rfl
section
variable {o a b : Feat}
end
section
variable {o a b : List Feat}
theorem Me7 (id : Str) (h : (bT7 o a b id).1.2 = true) : (bT7 o a b id).1.1.id = id := by
 have n2 := eQ7 (s := a) (id := id)
 have n3 := eQ7 (s := b) (id := id)
 have d2 := ml7 (s := a) id
 have d3 := ml7 (s := b) id
 unfold bT7 at h ⊢
 generalize bb7 o id = so at *
 generalize bb7 a id = sa at *
 generalize bb7 b id = sb at *
 unfold mJ1 at h ⊢
 split
 ·rename_i ht
  rw [if_pos ht] at h
  rcases rD7 (o := so) (a := sa) (b := sb) with e | e
  ·rw [e] at h ⊢; exact d2 h
  ·rw [e] at h ⊢; exact d3 h
 ·rename_i ht
  split
  ·rename_i ha
   apply d3
   cases hb2 : sb.2 with
   | true => rfl
   | false =>
    exfalso
    apply ht
    have e : sa = sb := by rw [n2 ha, n3 hb2]
    unfold dO7
    rw [e]
    by_cases q : sb = so <;> simp [q]
  ·rename_i ha
   have ha : sa.2 = true := by simpa using ha
   split
   ·exact d2 ha
   ·split
    ·exact d2 ha
    ·unfold mFJ
     split
     ·exact d2 ha
     ·exact d2 ha
theorem Mf7 (k : Str) (x : Feat) (hx : x ∈ oF o a b k) : x.id = k := by
 unfold oF at hx
 split at hx
 ·rename_i h
  rw [List.mem_singleton.1 hx]
  exact Me7 k h
 ·cases hx
theorem B87 (ho : Pw o) : Pw (sjF o a b) := yN7 (key := Feat.id) (fun k => un7 k) Mf7 (um7 ho)
end
theorem pd7 {r : an7} {x : Commit} (h : ba7 r = true) (hl : r.commits.length < 14) (hu : mUp x.up r.commits.length = true) (hs : aQ7 x.sheet = true) (ht : a87 x.note = true) (hno : bk7 r.commits x < 0) :
  ba7 ⟨r.commits ++ [x], r.heads⟩ = true := by
 obtain ⟨a, b, c, d⟩ := cm7.1 h
 have e : bk7 r.commits x = az7 (fun y : Commit => decide (y = x)) r.commits 0 := rfl
 have hf : bk7 (r.commits ++ [x]) x = (r.commits.length : Int) := by
  unfold bk7
  rw [fZ7, ← e, if_pos hno]
  simp [az7]
 refine cm7.2 ⟨⟨by simp, by simp; omega⟩, b, ?_, ?_⟩
 ·unfold cy7
  rw [fY7, Bool.and_eq_true]
  constructor
  ·refine d37 (fun j x hx hp => ?_) c
   simp only [Nat.zero_add, Bool.and_eq_true, decide_eq_true_eq] at hp ⊢
   refine ⟨hp.1, hp.2.1, hp.2.2.1, ?_⟩
   have e2 : bk7 r.commits x = az7 (fun y : Commit => decide (y = x)) r.commits 0 := rfl
   unfold bk7
   rw [fZ7, ← e2, if_neg (by omega)]
   exact hp.2.2.2
  ·simp only [aZ7, Nat.zero_add, Bool.and_true, Bool.and_eq_true, decide_eq_true_eq]
   exact ⟨hu, hs, ht, hf⟩
 ·refine d37 (fun j x hx hp => ?_) d
  simp only [Nat.zero_add, Bool.and_eq_true, decide_eq_true_eq, List.length_append, List.length_singleton] at hp ⊢
  exact ⟨hp.1, hp.2.1, hp.2.2.1, by omega⟩
structure At (r : an7) (n : Str) (i : Nat) (z : Head) (a : Nat) : Prop where
 repo : ba7 r = true
 hd : aM7 r.heads n = (i : Int)
 get : r.heads[i]? = some z
 name : z.name = n
 at_ : z.at_ = (a : Int)
 lt : a < r.commits.length
theorem At.of {r : an7} (hr : ba7 r = true) (n : Str) : aM7 r.heads n = -1 ∨ ∃ i z a, At r n i z a := by
 rcases fW7 hr n with h | ⟨k, a, z, g1, g2, g3, g4, g5⟩
 ·exact .inl h
 ·exact .inr ⟨k, z, a, hr, g1, g2, g3, g4, g5⟩
theorem At.repoAt {r : an7} {n : Str} {i a : Nat} {z : Head} (h : At r n i z a) : cW7 r n = (a : Int) := by rw [yB7 h.repo h.hd h.get, h.at_]
theorem yO7 {r : an7} {n : Str} (h : aM7 r.heads n = -1) : cW7 r n = -1 := by
 unfold cW7
 rw [h]
 split <;> rfl
open Classical in
theorem Mg7 {r : an7} {n f t : Str} {i j a b : Nat} {z y : Head} (ht : a87 t = true) (h1 : At r n i z a) (h2 : At r f j y b) : mJH r n f t =
  if Anc r.commits a b then (r, [], 1) else if Anc r.commits b a then (⟨r.commits, c97 r.heads i z b⟩, [], 2) else mJW r i z b t := by
 unfold mJH
 rw [if_pos (by rw [h1.repo, ht]; rfl), h1.hd, h2.hd, al7, al7, h1.get, h2.get]
 simp only [h1.at_, h2.at_, Int.toNat_natCast]
structure Fused (r : an7) (t : Str) (i : Nat) (z : Head) (a b : Nat) (q : an7) (m : Nat) : Prop where
 heads : q.heads = r.heads.set i ⟨z.name, (m : Int)⟩
 comm : (q.commits = r.commits ∧ m < r.commits.length) ∨ (q.commits = r.commits ++ [⟨[(a : Int), (b : Int)], (aw7 r a b).1, t⟩] ∧ m = r.commits.length ∧ r.commits.length < 14)
 get : q.commits[m]? = some ⟨[(a : Int), (b : Int)], (aw7 r a b).1, t⟩
 repo' : ba7 q = true
 ok : (aw7 r a b).2.2 = true
 none : (aw7 r a b).2.1 = []
 w : be7 q ≤ be7 r + 20001
section
variable {r : an7} {n f t : Str} {i j a b : Nat} {z y : Head}
theorem Bf7 (ht : a87 t = true) (h1 : At r n i z a) (hb : b < r.commits.length) (hab : a ≠ b) : (mJW r i z b t = (r, [], 5)) ∨ ((aw7 r a b).2.2 = true ∧ (aw7 r a b).2.1 ≠ [] ∧ mJW r i z b t = (r, (aw7 r a b).2.1, 3)) ∨ ∃ q m, mJW r i z b t = (q, [], 0) ∧ Fused r t i z a b q m := by
 unfold mJW
 rw [h1.at_]
 by_cases k1 : (aw7 r a b).2.2 = true
 ·rw [if_pos k1]
  by_cases k2 : (aw7 r a b).2.1 = []
  ·rw [if_pos k2]
   have hsh := (uo7 k1).1
   have hcw := mm7 (z := z) (b := (b : Int)) ht (by rw [h1.at_]; exact k1)
   rw [h1.at_] at hcw
   have hsw := Md7 (r := r) (c := ⟨[(a : Int), (b : Int)], (aw7 r a b).1, t⟩) h1.get
   have hl := do7 h1.repo
   have ha := h1.lt
   have hup : mUp [(a : Int), (b : Int)] r.commits.length = true := by
    simp only [mUp, aZ7, Bool.and_true, Bool.and_eq_true, decide_eq_true_eq, beq_iff_eq]
    refine ⟨⟨⟨by omega, by omega⟩, by omega, by omega⟩, by simp, by simp; omega, ?_⟩
    simp
    omega
   by_cases k3 : (n07 r i z ⟨[(a : Int), (b : Int)], (aw7 r a b).1, t⟩).1 = true
   ·rw [if_pos k3]
    refine .inr (.inr ?_)
    unfold n07 at k3 hsw ⊢
    by_cases f1 : bk7 r.commits ⟨[(a : Int), (b : Int)], (aw7 r a b).1, t⟩ < 0
    ·rw [if_pos f1] at k3 hsw ⊢
     by_cases f2 : r.commits.length = 14
     ·rw [if_pos f2] at k3
      cases k3
     ·rw [if_neg f2] at hsw ⊢
      have hq := pd7 (x := ⟨[(a : Int), (b : Int)], (aw7 r a b).1, t⟩) h1.repo (by omega) hup hsh ht f1
      exact ⟨_, r.commits.length, rfl, rfl, .inr ⟨rfl, rfl, by omega⟩, by simp, i07 (r := ⟨r.commits ++ [⟨[(a : Int), (b : Int)], (aw7 r a b).1, t⟩], r.heads⟩) (v := (r.commits.length : Int)) hq h1.get (by omega) (by simp; omega), k1, k2, by simp only at hsw ⊢; omega⟩
    ·rw [if_neg f1] at hsw ⊢
     obtain ⟨m, hm⟩ : ∃ m : Nat, bk7 r.commits ⟨[(a : Int), (b : Int)], (aw7 r a b).1, t⟩ = (m : Int) := ⟨(bk7 r.commits ⟨[(a : Int), (b : Int)], (aw7 r a b).1, t⟩).toNat, by omega⟩
     have hg := rA7 hm
     rw [hm] at hsw ⊢
     exact ⟨_, m, rfl, rfl, .inl ⟨rfl, cn7 hg⟩, hg, i07 (v := (m : Int)) h1.repo h1.get (by omega) (by have := cn7 hg; omega), k1, k2, by simp only at hsw ⊢; omega⟩
   ·rw [if_neg k3]
    exact .inl rfl
  ·rw [if_neg k2]
   exact .inr (.inl ⟨k1, k2, rfl⟩)
 ·rw [if_neg k1]
  exact .inl rfl
end
section
variable {r q : an7} {n f t : Str} {i j a b m : Nat} {z y : Head}
theorem Fused.anc (h : Fused r t i z a b q m) (hr : ba7 r = true) (ha : a < r.commits.length) (hb : b < r.commits.length) {u : Nat} : Anc q.commits m u ↔ u = m ∨ Anc r.commits a u ∨ Anc r.commits b u := by
 have hp : ∀ {c u : Nat}, c < r.commits.length → (Anc q.commits c u ↔ Anc r.commits c u) := fun {c u} hc => by
  rcases h.comm with ⟨e, _⟩ | ⟨e, _, _⟩
  ·rw [e]
  ·rw [e]
   exact yD7 (cg7 hr) hc
 constructor
 ·intro h1
  rcases h1.head' with h2 | ⟨x, v, h2, h3, h4⟩
  ·exact .inl h2.symm
  ·rw [h.get] at h2
   cases h2
   simp only [List.mem_cons, List.not_mem_nil, or_false] at h3
   rcases h3 with rfl | rfl
   ·exact .inr (.inl ((hp ha).1 (by simpa using h4)))
   ·exact .inr (.inr ((hp hb).1 (by simpa using h4)))
 ·have up1 : ∀ v : Nat, (v : Int) ∈ [(a : Int), (b : Int)] → Anc q.commits m v := fun v hv => by
   have h1 : Anc q.commits m ((v : Int).toNat) := .up (.refl m) h.get hv
   simpa using h1
  rintro (rfl | h1 | h1)
  ·exact .refl _
  ·exact (up1 a (by simp)).trans ((hp ha).2 h1)
  ·exact (up1 b (by simp)).trans ((hp hb).2 h1)
theorem Fused.take (h : Fused r t i z a b q m) : q.commits.take r.commits.length = r.commits := by
 rcases h.comm with ⟨e, _⟩ | ⟨e, _, _⟩
 ·rw [e, List.take_length]
 ·rw [e, List.take_left]
theorem Fused.len (h : Fused r t i z a b q m) : r.commits.length ≤ q.commits.length ∧ q.commits.length ≤ r.commits.length + 1 ∧ m < q.commits.length := by
 refine ⟨?_, ?_, cn7 h.get⟩
 ·rcases h.comm with ⟨e, _⟩ | ⟨e, _, _⟩ <;> rw [e] <;> simp
 ·rcases h.comm with ⟨e, _⟩ | ⟨e, _, _⟩ <;> rw [e] <;> simp
theorem Mh7 {v : Nat} (h1 : At r n i z a) {q : an7} (hq : ba7 q = true) (he : q.heads = r.heads.set i ⟨z.name, (v : Int)⟩) (hv : v < q.commits.length) : At q n i ⟨z.name, (v : Int)⟩ v where
 repo := hq
 hd := by rw [he, f07 (iZ7 h1.get)]; exact h1.hd
 get := by rw [he, List.getElem?_set_self (cn7 h1.get)]
 name := h1.name
 at_ := rfl
 lt := hv
end
def Th3 (o a b : List Feat) : Prop := ∀ id, (dO7 (bb7 o id) (bb7 a id) (bb7 b id)).2 = true
theorem Bg7 {o a b : List Feat} {id : Str} (h3 : Th3 o a b) (wo : wL aU7 o ≤ 1048576) (wa : wL aU7 a ≤ 1048576) (wb : wL aU7 b ≤ 1048576) (fo : ∀ f, f ∈ o → cp7 f = true) (fa : ∀ f, f ∈ a → cp7 f = true) (fb : ∀ f, f ∈ b → cp7 f = true) : qw7 o a b id = some ((bT7 o a b id).1.1, (bT7 o a b id).1.2, (bT7 o a b id).2) := by
 have ht := h3 id
 unfold qw7 bT7
 have s1 := nY7 (s := o) (id := id)
 have s2 := nY7 (s := a) (id := id)
 have s3 := nY7 (s := b) (id := id)
 have n1 := eQ7 (s := o) (id := id)
 have n2 := eQ7 (s := a) (id := id)
 have n3 := eQ7 (s := b) (id := id)
 have m1 := cX7 (id := id) fo
 have m2 := cX7 (id := id) fa
 have m3 := cX7 (id := id) fb
 rw [pa7 wo, pa7 wa, pa7 wb]
 generalize bb7 o id = so at *
 generalize bb7 a id = sa at *
 generalize bb7 b id = sb at *
 obtain ⟨ofe, oh⟩ := so
 obtain ⟨af, ah⟩ := sa
 obtain ⟨bf, bh⟩ := sb
 simp only at s1 s2 s3 n1 n2 n3 m1 m2 m3
 have e : (⟨af.id, ⟨af.shape.kind, af.shape.pts⟩, af.tags⟩ : Feat) = af := rfl
 simp only [Option.bind_some, e]
 rw [g87 (a := af) (b := ofe) (by omega), g87 (a := bf) (b := ofe) (by omega), g87 (a := af) (b := bf) (by omega)]
 simp only [Option.bind_some]
 unfold mJ1 dO7
 simp only [Prod.mk.injEq]
 cases oh <;> cases ah <;> cases bh
 ·obtain rfl := (Prod.mk.inj (n1 rfl)).1
  obtain rfl := (Prod.mk.inj (n2 rfl)).1
  obtain rfl := (Prod.mk.inj (n3 rfl)).1
  simp
 ·obtain rfl := (Prod.mk.inj (n1 rfl)).1
  obtain rfl := (Prod.mk.inj (n2 rfl)).1
  simp
 ·obtain rfl := (Prod.mk.inj (n1 rfl)).1
  obtain rfl := (Prod.mk.inj (n3 rfl)).1
  simp
 ·by_cases h : af = bf <;> simp [h, Mc7]
 ·obtain rfl := (Prod.mk.inj (n2 rfl)).1
  obtain rfl := (Prod.mk.inj (n3 rfl)).1
  simp
 ·by_cases h : bf = ofe <;> simp [h, A77]
 ·by_cases h : af = ofe <;> simp [h, A77]
 ·by_cases h1 : af = ofe
  ·simp [h1]
  ·by_cases h2 : bf = ofe
   ·simp [h1, h2]
   ·by_cases h4 : af = bf
    ·subst h4
     simp [h1]
    ·simp [dO7, h1, h2, h4] at ht
section
variable {o a b : List Feat}
theorem yP7 (h : Th3 o a b) (id : Str) : (bT7 o a b id).2.length ≤ 13 := by
 unfold bT7 mJ1
 rw [if_pos (h id)]
 exact Nat.zero_le _
theorem uq7 (h3 : Th3 o a b) (ho : Sh o) (ha : Sh a) (hb : Sh b) : ∀ (l : List Str) (k : Nat) (v : List Feat) (c : List aG7), v.length + l.length ≤ 10000 → c.length + 13 * l.length ≤ 100000 → ep7 o a b l k v c = some (v ++ l.flatMap (oF o a b), c ++ l.flatMap (oC o a b))
 | [], k, v, c, _, _ => by simp [ep7]
 | x :: l, k, v, c, hv, hc => by
  simp only [List.length_cons] at hv hc
  have hl := yP7 h3 x
  simp only [ep7]
  rw [Bg7 h3 ho.w ha.w hb.w ho.f ha.f hb.f, Option.bind_some]
  simp only
  have k1 : ((if (bT7 o a b x).1.2 = true then (if aI7 (v ++ ([(bT7 o a b x).1.1] : (List Feat))).length = true then some (v ++ ([(bT7 o a b x).1.1] : (List Feat))) else none) else (some v) : Option (List Feat))) = some (v ++ oF o a b x) := by
   cases h : (bT7 o a b x).1.2
   ·rw [of_ h]; simp
   ·rw [of_ h, if_pos rfl, if_pos (ab7 (by simp; omega))]; rfl
  have hf := un7 (o := o) (a := a) (b := b) x
  rw [k1, Option.bind_some, if_pos (ab7 (by omega)), cl5 _ _ _ (by omega), Option.bind_some, uq7 h3 ho ha hb l _ _ _ (by simp; omega) (by simp; omega), List.flatMap_cons, List.flatMap_cons, List.append_assoc, List.append_assoc]
  rfl
theorem pe7 (h3 : Th3 o a b) (ho : Sh o) (ha : Sh a) (hb : Sh b) (hid : ∀ id, (bb7 o id).2 = true → (bb7 o id).1.id = id) (hia : ∀ id, (bb7 a id).2 = true → (bb7 a id).1.id = id) (hib : ∀ id, (bb7 b id).2 = true → (bb7 b id).1.id = id) : ∀ (l : List Str) (k : Nat) (c : List aG7) (v : List Feat), v.length + l.length ≤ 10000 → c.length + 13 * l.length ≤ 100000 → dG7 o a b l k c v = some (c ++ l.flatMap (oC o a b), v ++ l.flatMap (oF o a b))
 | [], k, c, v, _, _ => by simp [dG7]
 | x :: l, k, c, v, hv, hc => by
  simp only [List.length_cons] at hv hc
  have hl := yP7 h3 x
  have hf := un7 (o := o) (a := a) (b := b) x
  have hfe := yK7 ho ha hb x
  have s1 := nY7 (s := o) (id := x)
  have s2 := nY7 (s := a) (id := x)
  have s3 := nY7 (s := b) (id := x)
  have w1 := ho.w; have w2 := ha.w; have w3 := hb.w
  have m1 := cX7 (id := x) ho.f
  have m2 := cX7 (id := x) ha.f
  have m3 := cX7 (id := x) hb.f
  have n2 := eQ7 (s := a) (id := x)
  have n3 := eQ7 (s := b) (id := x)
  have d1 := hid x; have d2 := hia x; have d3 := hib x
  simp only [dG7]
  rw [mk7 ho.w, Option.bind_some, mk7 ha.w, Option.bind_some, mk7 hb.w, Option.bind_some]
  simp only [Option.bind_some]
  have e1 : ∀ p : Feat × Bool, (⟨(th p).has, ⟨(th p).f.id, ⟨(th p).f.shape.kind, (th p).f.shape.pts⟩, (th p).f.tags⟩⟩ : dq7) = th p := fun p => rfl
  have e2 : ∀ p : Feat × Bool, (⟨(th p).f.id, ⟨(th p).f.shape.kind, (th p).f.shape.pts⟩, (th p).f.tags⟩ : Feat) = p.1 := fun p => rfl
  have e3 : ∀ p : Feat × Bool, (th p).has = p.2 := fun p => rfl
  have e5 : ∀ p : Feat × Bool, (⟨p.2, p.1⟩ : dq7) = th p := fun p => rfl
  simp only [e2, e3, e5]
  rw [Bb7 (by omega) (by omega), Option.bind_some]
  have hj : bT7 o a b x = mJ1 (bb7 o x) (bb7 a x) (bb7 b x) := rfl
  have ht := h3 x
  refine (congrArg (fun z => Option.bind z _) (?_ : _ = some (c ++ oC o a b x, (bT7 o a b x).1.2, (bT7 o a b x).1.1.id, (bT7 o a b x).1.1.shape.kind, (bT7 o a b x).1.1.shape.pts, (bT7 o a b x).1.1.tags))).trans ?_
  ·unfold oC
   rw [hj] at hl ⊢
   generalize bb7 o x = so at *
   generalize bb7 a x = sa at *
   generalize bb7 b x = sb at *
   simp only [e3]
   unfold mJ1 at hl ⊢
   rw [if_pos ht, if_pos ht]
   simp [th]
  ·simp only [Option.bind_some]
   have e4 : (⟨(bT7 o a b x).1.1.id, ⟨(bT7 o a b x).1.1.shape.kind, (bT7 o a b x).1.1.shape.pts⟩, (bT7 o a b x).1.1.tags⟩ : Feat) = (bT7 o a b x).1.1 := rfl
   rw [e4]
   have hcl : (oC o a b x).length ≤ 13 := by unfold oC; rw [List.length_map]; exact hl
   cases h : (bT7 o a b x).1.2
   ·rw [if_neg (by decide), pe7 h3 ho ha hb hid hia hib l _ _ _ (by omega) (by simp; omega), List.flatMap_cons, List.flatMap_cons, of_ h]
    simp
   ·have hw := hU7 (hfe h)
    rw [if_pos rfl, fX7 (by omega), Option.bind_some, if_pos (ab7 (by simp; omega)), pe7 h3 ho ha hb hid hia hib l _ _ _ (by simp; omega) (by simp; omega), List.flatMap_cons, List.flatMap_cons, of_ h]
    simp
theorem rI7 (h3 : Th3 o a b) (wo : wL aU7 o ≤ 1048576) (wa : wL aU7 a ≤ 1048576) (wb : wL aU7 b ≤ 1048576) : qy7 o a b = some (mSJ o a b) := by
 unfold qy7 mSJ
 rw [e57 wo, e57 wa, e57 wb]
 cases ho : aQ7 o
 ·rfl
 cases ha : aQ7 a
 ·rfl
 cases hb : aQ7 b
 ·rfl
 have l1 := bD7 ho; have l2 := bD7 ha; have l3 := bD7 hb
 have hi := mi7 (o := o) (a := a) (b := b)
 have hw := E97 ho ha hb
 simp only [Option.bind_some, Bool.not_true, Bool.false_eq_true, if_false, Bool.true_and]
 unfold tM7
 rw [E77 (by omega), Option.bind_some, if_pos (ab7 (by omega)), uq7 h3 (mj7 ho) (mj7 ha) (mj7 hb) _ _ _ _ (by simp; omega) (by simp; omega), Option.bind_some]
 simp only [List.nil_append]
 rw [show (jJ7 o a b).flatMap (oF o a b) = sjF o a b from rfl, o27 (by omega), Option.bind_some, e57 (by omega)]
 cases aQ7 (sjF o a b) <;> rfl
theorem rJ7 (h3 : Th3 o a b) (wo : wL aU7 o ≤ 1048576) (wa : wL aU7 a ≤ 1048576) (wb : wL aU7 b ≤ 1048576) : qP7 o a b = some (mSJ o a b) := by
 unfold qP7 mSJ
 rw [dv7 wo, dv7 wa, dv7 wb]
 cases ho : aQ7 o
 ·rfl
 cases ha : aQ7 a
 ·rfl
 cases hb : aQ7 b
 ·rfl
 have l1 := bD7 ho; have l2 := bD7 ha; have l3 := bD7 hb
 have hi := mi7 (o := o) (a := a) (b := b)
 have hw := E97 ho ha hb
 simp only [Option.bind_some, Bool.not_true, Bool.false_eq_true, if_false, Bool.true_and]
 rw [A87 (cw7 ho) (by omega), Option.bind_some, if_pos (ab7 (by omega)), pe7 h3 (mj7 ho) (mj7 ha) (mj7 hb) ml7 ml7 ml7 _ _ _ _ (by simp; omega) (by simp; omega), Option.bind_some]
 simp only [List.nil_append]
 rw [show (jJ7 o a b).flatMap (oF o a b) = sjF o a b from rfl, dv7 (by omega), Option.bind_some]
 cases aQ7 (sjF o a b) <;> rfl
end
theorem vr7 {r : an7} {x y : Nat} (hw : be7 r ≤ 1048576) (hr : ba7 r = true) (hx : x < r.commits.length) (hy : y < r.commits.length) (h3 : Th3 (B77 r (cV7 r x y)) (B77 r x) (B77 r y)) : nF7 r x y = some (aw7 r x y) ∧ ny7 r x y = some (aw7 r x y) := by
 obtain ⟨k, k1, k2, _, _⟩ := km7 hr hx hy
 obtain ⟨c1, h1⟩ := gJ7 hx
 obtain ⟨c2, h2⟩ := gJ7 hy
 obtain ⟨c3, h4⟩ := gJ7 k2
 have hin : (inR r (x : Int) && inR r (y : Int)) = true := by
  unfold inR
  rw [hr]
  simp
  omega
 rw [k1, cC7 h1, cC7 h2, cC7 h4] at h3
 unfold nF7 ny7 aw7
 rw [if_pos hin, nS7 hw, vp7 hw, Option.bind_some, Option.bind_some, k1, if_neg (by simp), if_neg (by simp), al7, h4, Option.bind_some, Option.bind_some, al7, h1, Option.bind_some, Option.bind_some, al7, h2, Option.bind_some, Option.bind_some, rJ7 h3 (jG7 hw h4) (jG7 hw h1) (jG7 hw h2), rI7 h3 (jG7 hw h4) (jG7 hw h1) (jG7 hw h2), cC7 h1, cC7 h2, cC7 h4]
 exact ⟨rfl, rfl⟩
theorem mo7 {s : List Feat} {f : Feat} (hs : aQ7 s = true) (hf : cp7 f = true) (hn : ∀ x, x ∈ s → x.id ≠ f.id) (hl : s.length ≤ 7) : nO7 s f = some (co7 f s, true) := by
 have hsh := (mj7 hs).w
 have hw := hU7 hf
 have hpw := jI7 (f := f) (cw7 hs)
 have hfind : s.find? (fun g : Feat => decide (g.id = f.id)) = none := List.find?_eq_none.2 fun x hx => by simpa using hn x hx
 have hperm : (s ++ [f]).Perm (co7 f s) := (List.perm_append_comm (l₁ := s) (l₂ := [f])).trans ((mPut_perm (f := f) (l := s)).trans (by rw [ul7 hfind]; exact List.Perm.refl _)).symm
 have hwl : wL aU7 (co7 f s) ≤ 1048576 := by
  have h1 := B47 (f := f) s
  have h2 : gk7 aU7 s ≤ s.length * 100 := mh7 fun x hx => hU7 (d47 hs x hx)
  unfold wL at h1 ⊢
  omega
 have hat : kb7 s f.id = some (-1) := by
  rw [o97 (by omega)]
  rcases i27 (p := fun g : Feat => decide (g.id = f.id)) s 0 with ⟨_, h2⟩ | ⟨j, x, h1, _⟩
  ·rw [h2]
  ·rw [hfind] at h1
   cases h1
 unfold nO7 xR7
 rw [dv7 hsh, Option.bind_some, hs, if_neg (by decide), t67 (by omega), Option.bind_some, hf, if_neg (by decide), eH7 hsh, Option.bind_some, hat, Option.bind_some, if_neg (by decide), if_neg (by simp; omega), if_pos (ab7 (by simp; omega)), vq7 hperm hpw (by simp; omega), Option.bind_some, eH7 hwl]
 rfl
theorem hV7 {s : List Feat} {f : Feat} (hn : ∀ x, x ∈ s → x.id ≠ f.id) : (co7 f s).length = s.length + 1 := by
 have hfind : s.find? (fun g : Feat => decide (g.id = f.id)) = none := List.find?_eq_none.2 fun x hx => by simpa using hn x hx
 rw [(mPut_perm (f := f) (l := s)).length_eq, ul7 hfind, List.length_cons]
theorem e67 {s : List Feat} {f : Feat} (hs : aQ7 s = true) (hf : cp7 f = true) (hn : ∀ x, x ∈ s → x.id ≠ f.id) (hl : s.length ≤ 7) : aQ7 (co7 f s) = true :=
 Be7 (fun x hx => by
  rcases i57 hx with rfl | hx
  ·exact hf
  ·exact d47 hs x hx) (jI7 (cw7 hs)) (by rw [hV7 hn]; omega)
theorem B97 {s : List Feat} {f : Feat} (hn : ∀ x, x ∈ s → x.id ≠ f.id) : s ≠ co7 f s := fun e => by
 have := hV7 hn
 rw [← e] at this
 omega
theorem mp7 {s : List Feat} {id : Str} (hs : aQ7 s = true) (h : (bb7 s id).2 = true) : ∃ f, ke7 s id = some (f, true) := by
 have hsh := (mj7 hs).w
 have hl := bD7 hs
 unfold ke7
 rw [o97 (by omega), Option.bind_some, dv7 hsh, Option.bind_some, hs, if_neg (by decide)]
 unfold bb7 at h
 rcases i27 (p := fun g : Feat => decide (g.id = id)) s 0 with ⟨h1, h2⟩ | ⟨j, x, h1, h2, h3, _⟩
 ·rw [h1] at h
  cases h
 ·have hx := hU7 (d47 hs x (List.mem_of_getElem? h3))
  rw [h2, if_neg (by simp), al7, Nat.zero_add, h3, Option.bind_some, fX7 (by omega)]
  exact ⟨x, rfl⟩
theorem Fb7 {o a b : List Feat} (ho : Pw o) (i : Str) : bb7 (sjF o a b) i = if (bT7 o a b i).1.2 = true then ((bT7 o a b i).1.1, true) else (nF, false) := by
 by_cases h : (bT7 o a b i).1.2 = true
 ·rw [if_pos h]
  refine sO7 (B87 ho) ?_ (Me7 i h)
  refine List.mem_flatMap.2 ⟨i, ?_, ?_⟩
  ·rw [rE7]
   rcases dh7 o i with ⟨h1, _⟩ | ⟨f, hf, he, _⟩
   ·rcases dh7 a i with ⟨h2, _⟩ | ⟨f, hf, he, _⟩
    ·rcases dh7 b i with ⟨h3, _⟩ | ⟨f, hf, he, _⟩
     ·unfold bT7 mJ1 dO7 at h
      rw [h1, h2, h3] at h
      simp at h
     ·exact .inr (.inr (List.mem_map.2 ⟨f, hf, he⟩))
    ·exact .inr (.inl (List.mem_map.2 ⟨f, hf, he⟩))
   ·exact .inl (List.mem_map.2 ⟨f, hf, he⟩)
  ·unfold oF
   rw [if_pos h]
   exact List.mem_singleton.2 rfl
 ·rw [if_neg h]
  refine gM7 fun f hf e => ?_
  obtain ⟨k, _, hk⟩ := List.mem_flatMap.1 hf
  have := Mf7 k f hk
  rw [← this, e] at hk
  unfold oF at hk
  rw [if_neg h] at hk
  cases hk
theorem vs7 {s : List Feat} {f g : Feat} (hp : Pw s) (hfg : f.id ≠ g.id) (nf : ∀ x, x ∈ s → x.id ≠ f.id) (ng : ∀ x, x ∈ s → x.id ≠ g.id) : Th3 s (co7 g s) (co7 f s) := fun i => by
 rw [dN7 hp, dN7 hp]
 by_cases e1 : i = f.id
 ·have e2 : ¬ i = g.id := fun e => hfg (e1.symm.trans e)
  rw [if_pos e1, if_neg e2]
  unfold dO7
  simp
 ·rw [if_neg e1]
  by_cases e2 : i = g.id
  ·rw [if_pos e2, e2, gM7 ng]
   unfold dO7
   simp
  ·rw [if_neg e2]
   unfold dO7
   simp
theorem Fc7 {s : List Feat} {f g : Feat} (hs : aQ7 s = true) (hf : cp7 f = true) (hg : cp7 g = true) (hfg : f.id ≠ g.id) (nf : ∀ x, x ∈ s → x.id ≠ f.id) (ng : ∀ x, x ∈ s → x.id ≠ g.id) (hl : s.length ≤ 6) :
  mSJ s (co7 g s) (co7 f s) = (co7 f (co7 g s), [], true) := by
 have hp := cw7 hs
 have sf := gM7 nf
 have sg := gM7 ng
 have h1 : ∀ i, bT7 s (co7 g s) (co7 f s) i = (if i = f.id then (f, true) else if i = g.id then (g, true) else bb7 s i, []) := fun i => by
  unfold bT7
  rw [dN7 hp, dN7 hp]
  by_cases e1 : i = f.id
  ·have e2 : ¬ i = g.id := fun e => hfg (e1.symm.trans e)
   rw [if_pos e1, if_neg e2, e1, sf, if_pos rfl]
   unfold mJ1 dO7
   simp
  ·rw [if_neg e1, if_neg e1]
   by_cases e2 : i = g.id
   ·rw [if_pos e2, e2, sg]
    unfold mJ1 dO7
    simp
   ·rw [if_neg e2]
    unfold mJ1 dO7
    simp
 have ngp : ∀ x, x ∈ co7 g s → x.id ≠ f.id := fun x hx => by
  rcases i57 hx with rfl | hx
  ·exact fun e => hfg e.symm
  ·exact nf x hx
 have hg' := e67 hs hg ng (by omega)
 have hf' := e67 hs hf nf (by omega)
 have hgl := hV7 ng
 have hfl := hV7 ngp
 have hfg' := e67 (s := co7 g s) hg' hf ngp (by omega)
 have hF : sjF s (co7 g s) (co7 f s) = co7 f (co7 g s) := L77 (B87 hp) (cw7 hfg') fun i => by
  rw [Fb7 hp, h1, dN7 (cw7 hg'), dN7 hp]
  simp only
  by_cases e1 : i = f.id
  ·rw [if_pos e1]; rfl
  ·rw [if_neg e1]
   by_cases e2 : i = g.id
   ·rw [if_pos e2]; rfl
   ·rw [if_neg e2]
    rcases dh7 s i with ⟨h1, _⟩ | ⟨x, _, _, h1⟩
    ·rw [h1]; rfl
    ·rw [h1]; rfl
 have hC : sjC s (co7 g s) (co7 f s) = [] := by
  unfold sjC
  rw [List.flatMap_eq_nil_iff]
  intro i _
  unfold oC
  rw [h1]
  rfl
 unfold mSJ
 rw [hF, hC, hs, hg', hf', hfg']
 rfl
section
variable {r q : an7} {n t : Str} {s : List Feat} {i k : Nat} {z : Head} {x : Commit}
theorem Added.at (h : Added r n t s i z x q k) : At q n i ⟨z.name, (k : Int)⟩ k := ⟨h.repo', h.head.1, h.head.2, h.name, rfl, cn7 h.get⟩
theorem Added.other {f : Str} {j b : Nat} {y : Head} (h : Added r n t s i z x q k) (h2 : At r f j y b) (hij : i ≠ j) : At q f j y b where
 repo := h.repo'
 hd := by rw [h.heads, f07 (iZ7 h.at_)]; exact h2.hd
 get := by rw [h.heads, List.getElem?_set_ne hij]; exact h2.get
 name := h2.name
 at_ := h2.at_
 lt := by
  have := h2.lt
  rcases h.comm with ⟨e, _⟩ | ⟨e, _, _⟩
  ·rw [e]; exact this
  ·rw [e]; simp; omega
theorem Added.len (h : Added r n t s i z x q k) : r.commits.length ≤ q.commits.length ∧ q.commits.length ≤ r.commits.length + 1 := by
 rcases h.comm with ⟨e, _⟩ | ⟨e, _, _⟩ <;> rw [e] <;> simp
theorem Added.get' (h : Added r n t s i z x q k) {c : Nat} {y : Commit} (hy : r.commits[c]? = some y) : q.commits[c]? = some y := by
 rcases h.comm with ⟨e, _⟩ | ⟨e, _, _⟩
 ·rw [e]; exact hy
 ·rw [e, List.getElem?_append_left (cn7 hy)]; exact hy
theorem Added.anc (h : Added r n t s i z x q k) {c u : Nat} (hc : c < r.commits.length) : Anc q.commits c u ↔ Anc r.commits c u := by
 rcases h.comm with ⟨e, _⟩ | ⟨e, _, _⟩
 ·rw [e]
 ·rw [e]
  exact yD7 (cg7 h.repo) hc
theorem Added.up (h : Added r n t s i z x q k) {a : Nat} (ha : z.at_ = (a : Int)) {u : Nat} (hal : a < r.commits.length) : Anc q.commits k u ↔ k = u ∨ Anc r.commits a u := by
 rw [E27 h.get (by simp only; rw [ha]), h.anc hal]
end
def forkS : Str := ⟨#[102, 111, 114, 107]⟩
def annS : Str := ⟨#[97, 110, 110]⟩
def bobS : Str := ⟨#[98, 111, 98]⟩
def Bh7 : Str := ⟨#[106, 111, 105, 110]⟩
def fY : Feat := ⟨(⟨#[121, 121]⟩ : Str), ⟨1, [(⟨1, 0⟩ : Pt)]⟩, []⟩
def gZ : Feat := ⟨(⟨#[122, 122]⟩ : Str), ⟨1, [(⟨2, 0⟩ : Pt)]⟩, []⟩
theorem Fd7 {hs : List Head} (h : ∀ z ∈ hs, z.name ∈ nm3) : aM7 hs forkS = -1 := E17 (by unfold nm3 forkS; simp only [List.mem_cons, List.not_mem_nil, or_false]; decide) h
theorem Bi7 {r : an7} {a b c : Nat} (hr : ba7 r = true) (ha : a < r.commits.length) (hb : b < r.commits.length) (hab : a ≠ b) (h1 : ∀ u, Anc r.commits a u ↔ a = u ∨ Anc r.commits c u) (h2 : ∀ u, Anc r.commits b u ↔ b = u ∨ Anc r.commits c u) (hca : c < a) (hcb : c < b) : cV7 r a b = (c : Int) ∧ ¬ Anc r.commits a b ∧ ¬ Anc r.commits b a := by
 have hc := cg7 hr
 have n1 : ¬ Anc r.commits a b := fun h => by
  rcases (h1 b).1 h with h | h
  ·exact hab h
  ·have := h.le hc; omega
 have n2 : ¬ Anc r.commits b a := fun h => by
  rcases (h2 a).1 h with h | h
  ·exact hab h.symm
  ·have := h.le hc; omega
 refine ⟨?_, n1, n2⟩
 obtain ⟨k, k1, k2, k3, k4⟩ := km7 hr ha hb
 have g1 : Com r.commits a b c := ⟨(h1 c).2 (.inr (.refl c)), (h2 c).2 (.inr (.refl c))⟩
 have g2 : Anc r.commits c k := by
  rcases (h1 k).1 k3.1 with h | h
  ·rcases (h2 k).1 k3.2 with h' | h'
   ·omega
   ·exact h'
  ·exact h
 have g3 := g2.le hc
 rcases Nat.lt_or_ge k c with h | h
 ·exact absurd g1 (k4 c h)
 ·rw [k1]; omega
theorem mS7 (code : List UInt8) : t07 code = some true := by
 unfold t07
 by_cases hs : (code.length : Int) > 1048576
 ·rw [if_pos (by simpa using hs)]
 rw [if_neg (by simpa using hs)]
 obtain ⟨r, n, h, hb, hn⟩ := yE7 code
 have hwb := P47 hb
 have hw : be7 r ≤ 1048576 := by omega
 rw [h, Option.bind_some]
 simp only
 rw [i17 hw, Option.bind_some, AR7 hw, Option.bind_some, if_neg (by simp)]
 by_cases h0 : cW7 r n < 0
 ·rw [if_pos (by simpa using h0), Option.bind_some]
  simp
 rw [if_neg (by simpa using h0)]
 by_cases h11 : (r.commits.length : Int) > 11
 ·rw [if_pos (by simpa using h11), Option.bind_some]
  simp
 rw [if_neg (by simpa using h11)]
 by_cases h4 : (r.heads.length : Int) ≥ 4
 ·rw [if_pos (by simpa using h4), Option.bind_some]
  simp
 rw [if_neg (by simpa using h4)]
 have hr : ba7 r = true := by
  by_cases hr : ba7 r = true
  ·exact hr
  ·unfold cW7 at h0
   rw [if_neg hr] at h0
   exact absurd (by decide) h0
 rcases At.of hr n with h1 | ⟨i, z, c, h1⟩
 ·rw [yO7 h1] at h0
  exact absurd (by decide) h0
 obtain ⟨x, hx⟩ := gJ7 h1.lt
 rw [h1.repoAt, al7, hx, Option.bind_some]
 by_cases h6 : (x.sheet.length : Int) > 6
 ·rw [if_pos (by simpa using h6), Option.bind_some]
  simp
 rw [if_neg (by simpa using h6), Option.bind_some]
 have hfork := Fd7 hb.2.2.2
 have hsx := (g77 (gL7 hr) hx).2.1
 have hlx : x.sheet.length ≤ 6 := by omega
 have hid : ∀ y, y ∈ x.sheet → y.id.size ≠ 2 := fun y hy => ((hb.2.2.1 x (List.mem_of_getElem? hx)).2.1.2 y hy).1.2
 have nf : ∀ y, y ∈ x.sheet → y.id ≠ fY.id := fun y hy e => hid y hy (by rw [e]; rfl)
 have ng : ∀ y, y ∈ x.sheet → y.id ≠ gZ.id := fun y hy e => hid y hy (by rw [e]; rfl)
 have mf : cp7 fY = true := by decide
 have mg : cp7 gZ = true := by decide
 have hfg : fY.id ≠ gZ.id := by decide
 have pf := mo7 hsx mf nf (by omega)
 have pg := mo7 hsx mg ng (by omega)
 have sf := e67 hsx mf nf (by omega)
 have sg := e67 hsx mg ng (by omega)
 have wS : ∀ {s : List Feat}, aQ7 s = true → wL aU7 s ≤ 1000 := fun {s} hs => by
  have h1 := bD7 hs
  have h2 : gk7 aU7 s ≤ s.length * 100 := mh7 fun x hx => hU7 (d47 hs x hx)
  unfold wL
  omega
 have wf := wS sf
 have wg := wS sg
 have th3 := vs7 (cw7 hsx) hfg nf ng
 have sj := Fc7 hsx mf mg hfg nf ng hlx
 have ngp : ∀ y, y ∈ co7 gZ x.sheet → y.id ≠ fY.id := fun y hy => by
  rcases i57 hy with rfl | hy
  ·exact fun e => hfg e.symm
  ·exact nf y hy
 have hneF := B97 nf
 have hneG := B97 ng
 have hlenJ : (co7 fY (co7 gZ x.sheet)).length = x.sheet.length + 2 := by rw [hV7 ngp, hV7 ng]
 have sidef : (bb7 (co7 fY (co7 gZ x.sheet)) fY.id).2 = true := by rw [dN7 (cw7 sg), if_pos rfl]
 have sideg : (bb7 (co7 fY (co7 gZ x.sheet)) gZ.id).2 = true := by rw [dN7 (cw7 sg), if_neg (fun e => hfg e.symm), dN7 (cw7 hsx), if_pos rfl]
 have sJ := e67 sg mf ngp (by rw [hV7 ng]; omega)
 generalize co7 fY (co7 gZ x.sheet) = J at *
 generalize co7 fY x.sheet = S at *
 generalize co7 gZ x.sheet = T at *
 have eb : nN7 r (⟨#[102, 111, 114, 107]⟩ : Str) n = some (⟨r.commits, r.heads ++ [⟨forkS, z.at_⟩]⟩, 0) := by
  have h4 := rq7 (r := r) (n := forkS) (f := n) hw (by decide)
  rw [sM7 hr (by decide) h1.hd h1.get (by omega) (by omega)] at h4
  exact h4
 have hz4 := kN7 hr h1.get
 have hr1 := rx7 (n := forkS) (v := z.at_) hr (by decide) (by omega) (by omega) hz4.2.2.1 hz4.2.2.2
 have hw1 : be7 ⟨r.commits, r.heads ++ [(⟨forkS, z.at_⟩ : Head)]⟩ ≤ be7 r + 5 := by
  have e : forkS.size = 4 := by decide
  rw [rz7]
  simp only
  omega
 have b1 : At ⟨r.commits, r.heads ++ [(⟨forkS, z.at_⟩ : Head)]⟩ n i z c := ⟨hr1, by simp only; rw [yw7 (by rw [h1.hd]; omega), h1.hd], by simp only; rw [List.getElem?_append_left (cn7 h1.get), h1.get], h1.name, h1.at_, h1.lt⟩
 have b2 : At ⟨r.commits, r.heads ++ [(⟨forkS, z.at_⟩ : Head)]⟩ forkS r.heads.length ⟨forkS, z.at_⟩ c := ⟨hr1, yx7 (z := ⟨forkS, z.at_⟩) (by simp only; omega), by simp, rfl, h1.at_, h1.lt⟩
 have bij : r.heads.length ≠ i := by have := cn7 h1.get; omega
 have hlr : r.commits.length ≤ 11 := by omega
 have hx1 : (⟨r.commits, r.heads ++ [(⟨forkS, z.at_⟩ : Head)]⟩ : an7).commits[c]? = some x := hx
 have hlr1 : (⟨r.commits, r.heads ++ [(⟨forkS, z.at_⟩ : Head)]⟩ : an7).commits.length ≤ 11 := hlr
 rw [show (⟨(⟨#[121, 121]⟩ : Str), ⟨1, [(⟨1, 0⟩ : Pt)]⟩, []⟩ : Feat) = fY from rfl, show (⟨(⟨#[122, 122]⟩ : Str), ⟨1, [(⟨2, 0⟩ : Pt)]⟩, []⟩ : Feat) = gZ from rfl, pf, Option.bind_some, pg, Option.bind_some, eb, Option.bind_some, Option.bind_some]
 simp only
 generalize (⟨r.commits, r.heads ++ [(⟨forkS, z.at_⟩ : Head)]⟩ : an7) = r1 at *
 have k1 : (rs7 r1 forkS S annS).2 = 0 := ui7 hr1 sf (by decide) b2.hd b2.get (by rw [b2.at_, al7]; exact hx1) hneF (by omega)
 obtain ⟨i1, z1, x1, r2, p, ad1⟩ := uh7 k1
 have e1 : kd7 r1 (⟨#[102, 111, 114, 107]⟩ : Str) S (⟨#[97, 110, 110]⟩ : Str) = some (r2, 0) := by
  have h4 := rt7 (r := r1) (n := forkS) (t := annS) (s := S) (by omega) (by omega) (by decide) (by rw [show annS.size = 3 from by decide]; omega)
  rw [ad1.eq] at h4
  exact h4
 have i1e : i1 = r.heads.length := by have h1 := ad1.hd; have h2 := b2.hd; omega
 subst i1e
 have z1e : z1 = ⟨forkS, z.at_⟩ := by have h1 := ad1.at_; rw [b2.get] at h1; cases h1; rfl
 subst z1e
 have c2 := ad1.at
 have c1 := ad1.other b1 bij
 have hw2 := ad1.w (by omega) (by omega) (by decide)
 have hl2 := ad1.len
 have hx2 := ad1.get' hx1
 have k2 : (rs7 r2 n T bobS).2 = 0 := ui7 ad1.repo' sg (by decide) c1.hd c1.get (by rw [c1.at_, al7]; exact hx2) hneG (by omega)
 obtain ⟨i2, z2, x2, r3, m, ad2⟩ := uh7 k2
 have e2 : kd7 r2 n T (⟨#[98, 111, 98]⟩ : Str) = some (r3, 0) := by
  have h4 := rt7 (r := r2) (n := n) (t := bobS) (s := T) (by omega) (by omega) (by decide) (by rw [show bobS.size = 3 from by decide]; omega)
  rw [ad2.eq] at h4
  exact h4
 have i2e : i2 = i := by have h1 := ad2.hd; have h2 := c1.hd; omega
 subst i2e
 have z2e : z2 = z := by have h1 := ad2.at_; rw [c1.get] at h1; cases h1; rfl
 subst z2e
 have d1 := ad2.at
 have d2 := ad2.other c2 (fun e => bij e.symm)
 have hw3 := ad2.w (by omega) (by omega) (by decide)
 have hl3 := ad2.len
 have hx3 := ad2.get' hx2
 have gp := ad2.get' ad1.get
 have gm := ad2.get
 have hpm : m ≠ p := fun e => by
  rw [e, gp] at gm
  cases gm
 have hcl : c < r1.commits.length := cn7 hx1
 have u1 : ∀ u, Anc r3.commits m u ↔ m = u ∨ Anc r3.commits c u := fun u => by
  rw [ad2.up c1.at_ (by omega), ad2.anc (c := c) (by omega)]
 have u2 : ∀ u, Anc r3.commits p u ↔ p = u ∨ Anc r3.commits c u := fun u => by
  rw [ad2.anc (c := p) (cn7 ad1.get), ad1.up b2.at_ hcl, ad2.anc (c := c) (by omega), ad1.anc hcl]
 have lcm : c < m := by
  have := (cg7 ad2.repo').lt m _ gm (c : Int) (by simp only; rw [c1.at_]; simp)
  omega
 have lcp : c < p := by
  have := (cg7 ad2.repo').lt p _ gp (c : Int) (by simp only; rw [b2.at_]; simp)
  omega
 obtain ⟨jb, n1, n2⟩ := Bi7 ad2.repo' d1.lt d2.lt hpm u1 u2 lcm lcp
 have hjt : aw7 r3 (m : Int) (p : Int) = (J, [], true) := by
  have hin : (inR r3 (m : Int) && inR r3 (p : Int)) = true := by
   have := d1.lt; have := d2.lt
   unfold inR
   rw [ad2.repo']
   simp
   omega
  unfold aw7
  rw [if_pos hin, jb, cC7 hx3, cC7 gm, cC7 gp]
  exact sj
 have ej := Mg7 (t := Bh7) (by decide) d1 d2
 rw [if_neg n1, if_neg n2] at ej
 rcases Bf7 (t := Bh7) (by decide) d1 d2.lt hpm with e | ⟨_, e, _⟩ | ⟨q, v, e, hf⟩
 ·exfalso
  unfold mJW at e
  simp only [hjt, if_true] at e
  have f2 : ¬ r3.commits.length = 14 := by omega
  unfold n07 at e
  rw [if_neg f2] at e
  split at e <;> simp at e
 ·rw [hjt] at e
  exact absurd rfl e
 have hqw := hf.w
 have g1 := Mh7 (v := v) d1 hf.repo' hf.heads hf.len.2.2
 have hgv := hf.get
 rw [hjt] at hgv
 have hJ := vr7 (by omega) ad2.repo' d1.lt d2.lt (by rw [jb, cC7 hx3, cC7 gm, cC7 gp]; exact th3)
 have eji : nH7 r3 n (⟨#[102, 111, 114, 107]⟩ : Str) (⟨#[106, 111, 105, 110]⟩ : Str) = some (q, [], 0) := by
  have h4 := rF7 (r := r3) (n := n) (f := forkS) (t := Bh7) (by omega) (by decide) fun z' y' hz hy => by
   rw [d1.hd, al7, d1.get] at hz
   rw [d2.hd, al7, d2.get] at hy
   cases hz
   cases hy
   exact hJ.1
  rw [ej, e] at h4
  exact h4
 have ejs : nG7 r3 n (⟨#[102, 111, 114, 107]⟩ : Str) (⟨#[106, 111, 105, 110]⟩ : Str) = some (q, [], 0) := by
  have h4 := rG7 (r := r3) (n := n) (f := forkS) (t := Bh7) (by omega) (by decide) fun z' y' hz hy => by
   rw [d1.hd, al7, d1.get] at hz
   rw [d2.hd, al7, d2.get] at hy
   cases hz
   cases hy
   exact hJ.2
  rw [ej, e] at h4
  exact h4
 have ra := i17 (r := r3) (n := n) (by omega)
 have rb : iI7 r3 (⟨#[102, 111, 114, 107]⟩ : Str) = some (p : Int) := by
  have h4 := i17 (r := r3) (n := forkS) (by omega)
  rw [d2.repoAt] at h4
  exact h4
 have rq := i17 (r := q) (n := n) (by omega)
 obtain ⟨y1, s1⟩ := mp7 sJ sidef
 obtain ⟨y2, s2⟩ := mp7 sJ sideg
 have s1 : ke7 J (⟨#[121, 121]⟩ : Str) = some (y1, true) := s1
 have s2 : ke7 J (⟨#[122, 122]⟩ : Str) = some (y2, true) := s2
 rw [d1.repoAt] at ra
 rw [g1.repoAt] at rq
 have jb2 := nS7 (r := r3) (a := (m : Int)) (b := (p : Int)) (by omega)
 rw [jb] at jb2
 have ew : IntKind.i64.wrap ((x.sheet.length : Int) + 2) = (x.sheet.length : Int) + 2 := aP7 (by omega) (by omega)
 have ew0 : IntKind.i64.wrap (IntKind.i64.wrap ((0 : Int) + 0) + 0) = 0 := by decide
 simp only [A07, e1, e2, eji, ejs, Option.bind_some, ew0]
 rw [if_neg (by decide), if_neg (by decide), if_neg (by decide), if_neg (by simp), ra, Option.bind_some, rb, Option.bind_some, jb2, Option.bind_some, if_neg (by simp), rq, Option.bind_some, al7, hgv, Option.bind_some]
 simp only [s1, s2, Option.bind_some, if_true, ew, hlenJ]
 simp
end Go.Proofs.AM
