/- Lemmas of the proof (THP), on an abstract machine. Conditions: none. -/
import Derived.Test.YtnnfdbdheoajgabGreatTHD
import Derived.Test.YtnnfdbdheoajgabGreatM2
import Derived.Test.YtnnfdbdheoajgabGreatHT
import Derived.Test.YtnnfdbdheoajgabGreatHN
import Derived.Test.YtnnfdbdheoajgabGreatHV
set_option linter.unusedVariables false
set_option linter.unusedSimpArgs false
set_option maxRecDepth 10000
namespace Go.Proofs.AM
theorem G27 : Sz ux7 (okL QH7) (wL w0) := yw7 fun _ _ => rfl
theorem G37 : Sz qI7 AX7 kB7 := by
 intro x n hx h0 hn
 unfold qI7
 refine qy7 hx.1 h0 hn fun m0 e0 a0 b0 => ?_
 rw [e0]
 refine qy7 hx.2 a0 b0 fun m1 e1 a1 b1 => ?_
 rw [e1]
 exact lo7 a1
theorem zi7 : Sz qJ7 s07 df7 := by
 intro x n hx h0 hn
 unfold qJ7
 refine ln7 G27 hx.2 h0 hn fun m0 a0 b0 => ?_
 exact lo7 a0
theorem BU7 : Sz uy7 (okL AX7) (wL kB7) := oK7 G37 (gl := gA7) (fun _ _ => rfl) (fun _ _ _ _ => rfl) (fun _ _ => rfl)
theorem BV7 : Sz qK7 uo7 aK7 := by
 intro x n hx h0 hn
 unfold qK7
 refine qy7 hx.1 h0 hn fun m0 e0 a0 b0 => ?_
 rw [e0]
 refine ln7 zi7 hx.2.1 a0 b0 fun m1 a1 b1 => ?_
 refine ln7 BU7 hx.2.2 a1 b1 fun m2 a2 b2 => ?_
 exact lo7 a2
theorem BW7 : Sz uz7 (okL rI) (wL w0) := yw7 fun _ _ => rfl
theorem zj7 : Sz uA7 (okL uo7) (wL aK7) := oK7 BV7 (gl := gB7) (fun _ _ => rfl) (fun _ _ _ _ => rfl) (fun _ _ => rfl)
theorem wy7 : Sz qL7 kA7 ar7 := by
 intro x n hx h0 hn
 unfold qL7
 refine ln7 BW7 hx.1 h0 hn fun m0 a0 b0 => ?_
 refine ln7 zj7 hx.2.1 a0 b0 fun m1 a1 b1 => ?_
 refine qy7 hx.2.2 a1 b1 fun m2 e2 a2 b2 => ?_
 rw [e2]
 exact lo7 a2
theorem BX7 : Sz qM7 up7 dn7 := by
 intro x n hx h0 hn
 unfold qM7
 refine qy7 hx.1 h0 hn fun m0 e0 a0 b0 => ?_
 rw [e0]
 exact lo7 a0
theorem tl7 : Sz uB7 (okL kA7) (wL ar7) := oK7 wy7 (gl := gC7) (fun _ _ => rfl) (fun _ _ _ _ => rfl) (fun _ _ => rfl)
theorem zk7 : Sz uC7 (okL up7) (wL dn7) := oK7 BX7 (gl := gD7) (fun _ _ => rfl) (fun _ _ _ _ => rfl) (fun _ _ => rfl)
theorem O67 : Cp uI7 w0 := fun _ _ => rfl
theorem G47 : Cp uJ7 (wL w0) := i77 O67 (gl := gG7) (fun _ _ => rfl) (fun _ _ _ _ => rfl) (fun _ => rfl)
theorem G57 : Cp uK7 kB7 := fun _ _ => rfl
theorem zl7 : Cp ra7 df7 := by
 intro x h
 unfold df7 at h
 have h0 := G47 x.pts (by omega)
 simp only [ra7, h0, Option.bind_some]
theorem BY7 : Cp uL7 (wL kB7) := i77 G57 (gl := gH7) (fun _ _ => rfl) (fun _ _ _ _ => rfl) (fun _ => rfl)
theorem BZ7 : Cp rb7 aK7 := by
 intro x h
 unfold aK7 at h
 have h1 := zl7 x.shape (by omega)
 have h2 := BY7 x.tags (by omega)
 simp only [rb7, h1, h2, Option.bind_some]
theorem B07 : Cp uM7 (wL w0) := i77 (QL7 (w := w0)) (gl := gI7) (fun _ _ => rfl) (fun _ _ _ _ => rfl) (fun _ => rfl)
theorem zm7 : Cp uN7 (wL aK7) := i77 BZ7 (gl := gJ7) (fun _ _ => rfl) (fun _ _ _ _ => rfl) (fun _ => rfl)
theorem wz7 : Cp rc7 ar7 := by
 intro x h
 unfold ar7 at h
 have h0 := B07 x.up (by omega)
 have h1 := zm7 x.sheet (by omega)
 simp only [rc7, h0, h1, Option.bind_some]
theorem B17 : Cp uO7 dn7 := fun _ _ => rfl
theorem tm7 : Cp uP7 (wL ar7) := i77 wz7 (gl := gK7) (fun _ _ => rfl) (fun _ _ _ _ => rfl) (fun _ => rfl)
theorem zn7 : Cp uQ7 (wL dn7) := i77 B17 (gl := gL7) (fun _ _ => rfl) (fun _ _ _ _ => rfl) (fun _ => rfl)
theorem O77 : Eqs rB7 w0 := by
 intro x h
 simp [rB7]
theorem G67 : Eqs u27 (wL w0) := hE7 O77 (gl := gP7) (fun _ _ => rfl) (fun _ _ _ _ => rfl) (fun _ _ => rfl)
theorem G77 : Eqs rC7 kB7 := by
 intro x h
 simp [rC7, c77]
theorem zo7 : Eqs rD7 df7 := by
 intro x h
 unfold df7 at h
 have h0 := G67 x.pts (by omega)
 simp [rD7, h0]
theorem B27 : Eqs u37 (wL kB7) := hE7 G77 (gl := gQ7) (fun _ _ => rfl) (fun _ _ _ _ => rfl) (fun _ _ => rfl)
theorem B37 : Eqs rE7 aK7 := by
 intro x h
 unfold aK7 at h
 have h1 := zo7 x.shape (by omega)
 have h2 := B27 x.tags (by omega)
 simp [rE7, c77, h1, h2]
theorem B47 : Eqs u47 (wL w0) := hE7 (QM7 (w := w0)) (gl := gR7) (fun _ _ => rfl) (fun _ _ _ _ => rfl) (fun _ _ => rfl)
theorem zp7 : Eqs u57 (wL aK7) := hE7 B37 (gl := gS7) (fun _ _ => rfl) (fun _ _ _ _ => rfl) (fun _ _ => rfl)
theorem wA7 : Eqs rF7 ar7 := by
 intro x h
 unfold ar7 at h
 have h0 := B47 x.up (by omega)
 have h1 := zp7 x.sheet (by omega)
 simp [rF7, c77, h0, h1]
theorem B57 : Eqs rG7 dn7 := by
 intro x h
 simp [rG7, c77]
theorem tn7 : Eqs u67 (wL ar7) := hE7 wA7 (gl := gT7) (fun _ _ => rfl) (fun _ _ _ _ => rfl) (fun _ _ => rfl)
theorem zq7 : Eqs u77 (wL dn7) := hE7 B57 (gl := gU7) (fun _ _ => rfl) (fun _ _ _ _ => rfl) (fun _ _ => rfl)
theorem B67 : Sz rN7 yq7 a47 := by
 intro x n hx h0 hn
 unfold rN7
 refine ln7 tl7 hx.1 h0 hn fun m0 a0 b0 => ?_
 refine ln7 zk7 hx.2 a0 b0 fun m1 a1 b1 => ?_
 exact lo7 a1
theorem B77 : Cp jS7 a47 := by
 intro x h
 unfold a47 at h
 have h0 := tm7 x.commits (by omega)
 have h1 := zn7 x.heads (by omega)
 simp only [jS7, h0, h1, Option.bind_some]
theorem ve7 : Eqs jT7 a47 := by
 intro x h
 unfold a47 at h
 have h0 := tn7 x.commits (by omega)
 have h1 := zq7 x.heads (by omega)
 simp [jT7, h0, h1]
theorem gW7 {s : Str} (h : s.size ≤ 1048576) : hc7 s = some (by7 s) := by
 unfold hc7 by7
 rw [if_pos (aa7 h), h97 (gl := e17) (p := fun (b : UInt8) _ => decide (97 ≤ b.toNat) && decide (b.toNat ≤ 122)) (xs := s.data.toList) (fun _ => rfl) (fun x l k _ => ?_) s.data.toList 0 rfl]
 ·have e1 : ((s.size : Int) ≥ 1) ↔ 1 ≤ s.size := by omega
  have e2 : ((s.size : Int) ≤ 6) ↔ s.size ≤ 6 := by omega
  cases bv7 (fun (b : UInt8) _ => decide (97 ≤ b.toNat) && decide (b.toNat ≤ 122)) s.data.toList 0
  ·rfl
  ·by_cases h1 : 1 ≤ s.size <;> simp [e1, e2, h1]
 ·have e1 : ((x.toNat : Int) < 97) ↔ ¬ 97 ≤ x.toNat := by omega
  have e2 : ((x.toNat : Int) > 122) ↔ ¬ x.toNat ≤ 122 := by omega
  simp only [e17, e1, e2]
  by_cases h1 : 97 ≤ x.toNat <;> by_cases h2 : x.toNat ≤ 122 <;> simp [h1, h2]
theorem gX7 {s : Str} (h : s.size ≤ 1048576) : hd7 s = some (by7 s) := by
 unfold hd7 by7
 rw [if_pos (aa7 h), h97 (gl := fi7) (p := fun (b : UInt8) _ => decide (97 ≤ b.toNat) && decide (b.toNat ≤ 122)) (xs := s.data.toList) (fun _ => rfl) (fun x l k _ => ?_) s.data.toList 0 rfl]
 ·have e1 : ((s.size : Int) ≥ 1) ↔ 1 ≤ s.size := by omega
  have e2 : ((s.size : Int) ≤ 6) ↔ s.size ≤ 6 := by omega
  cases bv7 (fun (b : UInt8) _ => decide (97 ≤ b.toNat) && decide (b.toNat ≤ 122)) s.data.toList 0
  ·rfl
  ·by_cases h1 : 1 ≤ s.size <;> simp [d67, e1, e2, h1]
 ·have e1 : ((x.toNat : Int) < 97) ↔ ¬ 97 ≤ x.toNat := by omega
  have e2 : ((x.toNat : Int) > 122) ↔ ¬ x.toNat ≤ 122 := by omega
  simp only [fi7, e1, e2]
  by_cases h1 : 97 ≤ x.toNat <;> by_cases h2 : x.toNat ≤ 122 <;> simp [h1, h2]
theorem G87 (n : Int) : nJ7 n = some (lq7 n) := by
 unfold nJ7 lq7
 by_cases h : -1000 ≤ n <;> simp [h]
theorem ek7 (n a b : Int) : d67 n a b = some (decide (a ≤ n) && decide (n ≤ b)) := by
 unfold d67
 by_cases h : a ≤ n <;> simp [h]
theorem G97 {xs : List Pt} (h : xs.length ≤ 1048576) : qN7 xs = some (E27 xs && decide (xs.length ≤ 6)) := by
 unfold qN7 E27
 rw [if_pos (aa7 h), h97 (gl := dV7 xs) (p := fun p k => lq7 p.x && (lq7 p.y && (decide (k = 0) || decide (xs[k - 1]? ≠ some p)))) (xs := xs) (fun _ => rfl) (fun x l k hd => ?_) xs 0 rfl]
 ·rw [show decide ((xs.length : Int) ≤ 6) = decide (xs.length ≤ 6) from E07]
  exact Pt7
 ·simp only [dV7, G87, Option.bind_some, ptb, E17]
  rcases Nat.eq_zero_or_pos k with rfl | hk
  ·cases lq7 x.x <;> cases lq7 x.y <;> simp
  ·obtain ⟨y, hy⟩ := eC7 hd hk
   have hl := b57 hd
   have hw := dg7 hk (by omega)
   rw [hw, ah7, hy]
   have hk' : ¬ k = 0 := by omega
   by_cases e : x = y
   ·subst e
    cases lq7 x.x <;> cases lq7 x.y <;> simp [hk, hk', hy]
   ·have e' : ¬ y = x := fun h => e h.symm
    cases lq7 x.x <;> cases lq7 x.y <;> simp [hk, hk', hy, e, e']
theorem r77 {x : aR7} (h : x.pts.length ≤ 1048576) : nK7 x = some (dS7 x) := by
 unfold nK7 dS7
 rw [G97 h]
 simp only [Option.bind_some, ptb]
 have c1 : ((x.pts.length : Int) == 1) = decide (x.pts.length = 1) := by
  by_cases e : x.pts.length = 1 <;> simp [e] <;> omega
 have c2 : ((x.pts.length : Int) ≥ 2) ↔ 2 ≤ x.pts.length := by omega
 have c3 : ((x.pts.length : Int) ≥ 3) ↔ 3 ≤ x.pts.length := by omega
 cases E27 x.pts
 ·simp
 ·by_cases hl : x.pts.length ≤ 6
  ·by_cases k1 : x.kind = 1
   ·simp [k1, hl, c1]
   ·by_cases k2 : x.kind = 2
    ·simp [k2, hl, c2]
    ·by_cases k3 : x.kind = 3
     ·by_cases h3 : 3 ≤ x.pts.length
      ·obtain ⟨p, hp⟩ : ∃ p, x.pts[0]? = some p := ⟨x.pts[0], List.getElem?_eq_getElem (by omega)⟩
       obtain ⟨q, hq⟩ : ∃ p, x.pts[x.pts.length - 1]? = some p := ⟨x.pts[x.pts.length - 1], List.getElem?_eq_getElem (by omega)⟩
       have hw := dg7 (k := x.pts.length) (by omega) (by omega)
       have e0 : idx x.pts 0 = some p := by rw [← hp]; exact ah7 (k := 0)
       have e1 : idx x.pts ((x.pts.length - 1 : Nat) : Int) = some q := by rw [← hq]; exact ah7
       rw [hw]
       simp [k3, hl, c3, h3, e0, e1, hp, hq]
      ·simp [k3, hl, c3, h3]
     ·simp [k1, k2, k3, hl]
  ·simp [hl]
theorem O87 (p : Pt) : rd7 p = some (lq7 p.x && lq7 p.y) := by
 unfold rd7 lq7
 rw [ek7, ek7]
 simp only [Option.bind_some]
 cases (decide (-1000 ≤ p.x) && decide (p.x ≤ 1000)) <;> simp
theorem r87 {x : aR7} (h : x.pts.length ≤ 1048576) : lC7 x = some (dS7 x) := by
 unfold lC7 dS7
 have c1 : ((x.pts.length : Int) == 1) = decide (x.pts.length = 1) := by
  by_cases e : x.pts.length = 1 <;> simp [e] <;> omega
 have c2 : ((2 : Int) ≤ (x.pts.length : Int)) ↔ 2 ≤ x.pts.length := by omega
 have c3 : ((3 : Int) ≤ (x.pts.length : Int)) ↔ 3 ≤ x.pts.length := by omega
 have c6 : ((x.pts.length : Int) ≤ 6) ↔ x.pts.length ≤ 6 := by omega
 rw [if_pos (aa7 h), h97 (gl := d77 x) (p := fun p k => lq7 p.x && (lq7 p.y && (decide (k = 0) || decide (x.pts[k - 1]? ≠ some p)))) (xs := x.pts) (fun _ => rfl) (fun y l k hd => ?_) x.pts 0 rfl]
 ·show _ = some (E27 x.pts && _)
  have hm : bv7 (fun (p : Pt) k => lq7 p.x && (lq7 p.y && (decide (k = 0) || decide (x.pts[k - 1]? ≠ some p)))) x.pts 0 = E27 x.pts := rfl
  rw [hm]
  cases E27 x.pts
  ·rfl
  ·simp only [if_true, Option.bind_some, ptb, ek7]
   by_cases k1 : x.kind = 1
   ·by_cases e : x.pts.length = 1 <;> simp [k1, c1, e]
   ·by_cases k2 : x.kind = 2
    ·by_cases e : x.pts.length ≤ 6 <;> simp [k2, c2, c6, e]
    ·by_cases k3 : x.kind = 3
     ·by_cases h3 : 3 ≤ x.pts.length
      ·obtain ⟨p, hp⟩ : ∃ p, x.pts[0]? = some p := ⟨x.pts[0], List.getElem?_eq_getElem (by omega)⟩
       obtain ⟨q, hq⟩ : ∃ p, x.pts[x.pts.length - 1]? = some p := ⟨x.pts[x.pts.length - 1], List.getElem?_eq_getElem (by omega)⟩
       have hw := dg7 (k := x.pts.length) (by omega) (by omega)
       have e0 : idx x.pts 0 = some p := by rw [← hp]; exact ah7 (k := 0)
       have e1 : idx x.pts ((x.pts.length - 1 : Nat) : Int) = some q := by rw [← hq]; exact ah7
       rw [hw]
       by_cases e : x.pts.length ≤ 6 <;> simp [k3, c3, c6, h3, e0, e1, hp, hq, e]
      ·simp [k3, c3, c6, h3]
     ·simp [k1, k2, k3]
 ·simp only [d77, O87, Option.bind_some, ptb, E17]
  rcases Nat.eq_zero_or_pos k with rfl | hk
  ·cases lq7 y.x <;> cases lq7 y.y <;> simp
  ·obtain ⟨z, hz⟩ := eC7 hd hk
   have hl := b57 hd
   have hw := dg7 hk (by omega)
   rw [hw, ah7, hz]
   have hk' : ¬ k = 0 := by omega
   by_cases e : z = y <;> cases lq7 y.x <;> cases lq7 y.y <;> simp [hk, hk', hz, e]
theorem B87 {ts : List Tag} (h : wL kB7 ts ≤ 1048576) : qO7 ts = some (s47 ts && decide (ts.length ≤ 4)) := by
 have hlen : ts.length ≤ 1048576 := by unfold wL at h; omega
 unfold qO7 s47
 rw [if_pos (aa7 hlen), h97 (gl := dW7 ts) (p := fun t k => by7 t.key && (by7 t.val && (decide (k = 0) || j57 Tag.key ts t k))) (xs := ts) (fun _ => rfl) (fun x l k hd => ?_) ts 0 rfl]
 ·rw [show decide ((ts.length : Int) ≤ 4) = decide (ts.length ≤ 4) from E07]
  exact Pt7
 ·have hx : x ∈ ts := List.mem_of_getElem? (cg7 hd)
  have hs := bn7 (w := kB7) hx
  unfold wL at h
  have hk1 : x.key.size ≤ 1048576 := by have e0 : kB7 x = x.key.size + (x.val.size + 0) := rfl; omega
  have hk2 : x.val.size ≤ 1048576 := by have e0 : kB7 x = x.key.size + (x.val.size + 0) := rfl; omega
  simp only [dW7, gW7 hk1, gW7 hk2, Option.bind_some, E17, s37]
  rcases Nat.eq_zero_or_pos k with rfl | hk
  ·cases by7 x.key <;> cases by7 x.val <;> simp
  ·obtain ⟨z, hz⟩ := eC7 hd hk
   have hl := b57 hd
   have hw := dg7 hk (by omega)
   rw [hw, ah7, hz]
   have hk' : ¬ k = 0 := by omega
   cases e : slt z.key x.key <;> cases by7 x.key <;> cases by7 x.val <;> simp [hk, hk', hz, e, j57]
theorem vf7 {f : Feat} (h : aK7 f ≤ 1048576) : lt7 f = some (bK7 f) := by
 unfold aK7 df7 at h
 have h1 : f.id.size ≤ 1048576 := by omega
 have h2 : f.shape.pts.length ≤ 1048576 := by unfold wL at h; omega
 unfold lt7 bK7
 rw [gW7 h1, r77 h2, B87 (by omega)]
 simp only [Option.bind_some]
 cases by7 f.id <;> cases dS7 f.shape <;> simp
theorem iy7 {f : Feat} (h : aK7 f ≤ 1048576) : he7 f = some (bK7 f) := by
 unfold aK7 df7 at h
 have h1 : f.id.size ≤ 1048576 := by omega
 have h2 : f.shape.pts.length ≤ 1048576 := by unfold wL at h; omega
 have h3 : wL kB7 f.tags ≤ 1048576 := by omega
 have hlen : f.tags.length ≤ 1048576 := by unfold wL at h3; omega
 unfold he7 bK7
 rw [if_pos (aa7 hlen), h97 (gl := d87 f) (p := fun t k => by7 t.key && (by7 t.val && (decide (k = 0) || j57 Tag.key f.tags t k))) (xs := f.tags) (fun _ => rfl) (fun x l k hd => ?_) f.tags 0 rfl]
 ·have hm : bv7 (fun (t : Tag) k => by7 t.key && (by7 t.val && (decide (k = 0) || j57 Tag.key f.tags t k))) f.tags 0 = s47 f.tags := rfl
  rw [hm, gX7 h1, r87 h2]
  rw [show decide ((f.tags.length : Int) ≤ 4) = decide (f.tags.length ≤ 4) from E07]
  cases s47 f.tags <;> cases by7 f.id <;> cases dS7 f.shape <;> simp
 ·have hx : x ∈ f.tags := List.mem_of_getElem? (cg7 hd)
  have hs := bn7 (w := kB7) hx
  unfold wL at h3
  have hk1 : x.key.size ≤ 1048576 := by have e0 : kB7 x = x.key.size + (x.val.size + 0) := rfl; omega
  have hk2 : x.val.size ≤ 1048576 := by have e0 : kB7 x = x.key.size + (x.val.size + 0) := rfl; omega
  simp only [d87, gX7 hk1, gX7 hk2, Option.bind_some, E17]
  rcases Nat.eq_zero_or_pos k with rfl | hk
  ·cases by7 x.key <;> cases by7 x.val <;> simp
  ·obtain ⟨z, hz⟩ := eC7 hd hk
   have hl := b57 hd
   have hw := dg7 hk (by omega)
   rw [hw, ah7, hz]
   have hk' : ¬ k = 0 := by omega
   cases e : slt z.key x.key <;> cases by7 x.key <;> cases by7 x.val <;> simp [hk, hk', hz, e, j57]
theorem gk7 {fs : List Feat} (h : wL aK7 fs ≤ 1048576) : ib7 fs = some (a97 fs) := by
 have hlen : fs.length ≤ 1048576 := by unfold wL at h; omega
 unfold ib7 a97
 rw [if_pos (aa7 hlen), h97 (gl := dX7 fs) (p := fun f k => bK7 f && (decide (k = 0) || j57 Feat.id fs f k)) (xs := fs) (fun _ => rfl) (fun x l k hd => ?_) fs 0 rfl]
 ·rw [show decide ((fs.length : Int) ≤ 8) = decide (fs.length ≤ 8) from E07]
  exact Pt7
 ·have hx : x ∈ fs := List.mem_of_getElem? (cg7 hd)
  have hs := bn7 (w := aK7) hx
  unfold wL at h
  simp only [dX7, vf7 (f := x) (by omega), Option.bind_some, E17, s37]
  rcases Nat.eq_zero_or_pos k with rfl | hk
  ·cases bK7 x <;> simp
  ·obtain ⟨z, hz⟩ := eC7 hd hk
   have hl := b57 hd
   have hw := dg7 hk (by omega)
   rw [hw, ah7, hz]
   have hk' : ¬ k = 0 := by omega
   cases e : slt z.id x.id <;> cases bK7 x <;> simp [hk, hk', hz, e, j57]
theorem gl7 {fs : List Feat} (h : wL aK7 fs ≤ 1048576) : ic7 fs = some (a97 fs) := by
 have hlen : fs.length ≤ 1048576 := by unfold wL at h; omega
 unfold ic7 a97
 rw [if_pos (aa7 hlen), h97 (gl := d97 fs) (p := fun f k => bK7 f && (decide (k = 0) || j57 Feat.id fs f k)) (xs := fs) (fun _ => rfl) (fun x l k hd => ?_) fs 0 rfl]
 ·rw [show decide ((fs.length : Int) ≤ 8) = decide (fs.length ≤ 8) from E07]
  exact Pt7
 ·have hx : x ∈ fs := List.mem_of_getElem? (cg7 hd)
  have hs := bn7 (w := aK7) hx
  unfold wL at h
  simp only [d97, iy7 (f := x) (by omega), Option.bind_some, E17, s37]
  rcases Nat.eq_zero_or_pos k with rfl | hk
  ·cases bK7 x <;> simp
  ·obtain ⟨z, hz⟩ := eC7 hd hk
   have hl := b57 hd
   have hw := dg7 hk (by omega)
   rw [hw, ah7, hz]
   have hk' : ¬ k = 0 := by omega
   cases e : slt z.id x.id <;> cases bK7 x <;> simp [hk, hk', hz, e, j57]
theorem kE7 {a b : List Pt} (h : a.length ≤ 1048576) : lu7 a b = some (decide (a = b)) := dT7 (gl := e37) (ok := fun _ => True) (fun _ _ => rfl) (fun a x l k y _ hy => by
 simp only [e37, ah7, hy, Option.bind_some, ptb]
 by_cases e : x = y <;> simp [e]) (fun _ _ => rfl) h (fun _ _ => trivial)
theorem vg7 {a b : List Pt} (h : a.length ≤ 1048576) : eF7 a b = some (decide (a = b)) := dT7 (gl := fj7) (ok := fun _ => True) (fun _ _ => rfl) (fun a x l k y _ hy => by
 simp only [fj7, ah7, hy, Option.bind_some, ptb]
 by_cases e : x = y <;> simp [e]) (fun _ _ => rfl) h (fun _ _ => trivial)
theorem B97 {a b : List Tag} (h : a.length ≤ 1048576) : uD7 a b = some (decide (a = b)) := dT7 (gl := e47) (ok := fun _ => True) (fun _ _ => rfl) (fun a x l k y _ hy => by
 simp only [e47, ah7, hy, Option.bind_some, Um7]
 by_cases e : x = y <;> simp [e]) (fun _ _ => rfl) h (fun _ _ => trivial)
theorem Ha7 {a b : List Tag} (h : a.length ≤ 1048576) : uR7 a b = some (decide (a = b)) := dT7 (gl := fk7) (ok := fun _ => True) (fun _ _ => rfl) (fun a x l k y _ hy => by
 simp only [fk7, ah7, hy, Option.bind_some, Um7]
 by_cases e : x = y <;> simp [e]) (fun _ _ => rfl) h (fun _ _ => trivial)
theorem Ca7 {a b : List Int} (h : a.length ≤ 1048576) : uE7 a b = some (decide (a = b)) := dT7 (gl := e57) (ok := fun _ => True) (fun _ _ => rfl) (fun a x l k y _ hy => by
 simp only [e57, ah7, hy, Option.bind_some]
 by_cases e : x = y <;> simp [e]) (fun _ _ => rfl) h (fun _ _ => trivial)
theorem Hb7 {a b : List Int} (h : a.length ≤ 1048576) : uT7 a b = some (decide (a = b)) := dT7 (gl := fm7) (ok := fun _ => True) (fun _ _ => rfl) (fun a x l k y _ hy => by
 simp only [fm7, ah7, hy, Option.bind_some]
 by_cases e : x = y <;> simp [e]) (fun _ _ => rfl) h (fun _ _ => trivial)
theorem fI7 {a b : aR7} (h : a.pts.length ≤ 1048576) : jL7 a b = some (decide (a = b)) := by
 unfold jL7
 rw [kE7 h]
 obtain ⟨k, p⟩ := a; obtain ⟨k2, p2⟩ := b
 by_cases h1 : k = k2 <;> by_cases h2 : p = p2 <;> simp [h1, h2]
theorem gY7 {a b : Feat} (h : aK7 a ≤ 1048576) : fQ7 a b = some (decide (a = b)) := by
 unfold aK7 df7 wL at h
 unfold fQ7
 rw [fI7 (by omega), B97 (by omega), bP7]
 obtain ⟨i, s, t⟩ := a; obtain ⟨i2, s2, t2⟩ := b
 by_cases h1 : i = i2 <;> by_cases h2 : s = s2 <;> by_cases h3 : t = t2 <;> simp [h1, h2, h3]
theorem fJ7 {a b : aR7} (h : a.pts.length ≤ 1048576) : jP7 a b = some (decide (a = b)) := by
 unfold jP7
 rw [vg7 h]
 obtain ⟨k, p⟩ := a; obtain ⟨k2, p2⟩ := b
 by_cases h1 : k = k2 <;> by_cases h2 : p = p2 <;> simp [h1, h2]
theorem oc7 {a b : Feat} (h : aK7 a ≤ 1048576) : nV7 a b = some (decide (a = b)) := by
 unfold aK7 df7 wL at h
 unfold nV7
 rw [fJ7 (by omega), Ha7 (by omega), bP7]
 obtain ⟨i, s, t⟩ := a; obtain ⟨i2, s2, t2⟩ := b
 by_cases h1 : i = i2 <;> by_cases h2 : s = s2 <;> by_cases h3 : t = t2 <;> simp [h1, h2, h3]
theorem to7 {a b : List Feat} (h : wL aK7 a ≤ 1048576) : uF7 a b = some (decide (a = b)) := dT7 (gl := e67) (ok := fun x => aK7 x ≤ 1048576) (fun _ _ => rfl) (fun a x l k y hx hy => by
 simp only [e67, ah7, hy, Option.bind_some, gY7 hx]
 by_cases e : x = y <;> simp [e]) (fun _ _ => rfl) (by unfold wL at h; omega) (fun x hx => by have := bn7 (w := aK7) hx; unfold wL at h; omega)
theorem Cb7 {a b : List Feat} (h : wL aK7 a ≤ 1048576) : uS7 a b = some (decide (a = b)) := dT7 (gl := fl7) (ok := fun x => aK7 x ≤ 1048576) (fun _ _ => rfl) (fun a x l k y hx hy => by
 simp only [fl7, ah7, hy, Option.bind_some, oc7 hx]
 by_cases e : x = y <;> simp [e]) (fun _ _ => rfl) (by unfold wL at h; omega) (fun x hx => by have := bn7 (w := aK7) hx; unfold wL at h; omega)
theorem tp7 {a b : List Feat} (h : wL aK7 a ≤ 1048576) : re7 a b = some (decide (a = b)) := by
 unfold re7
 rw [Cb7 h]
 rfl
theorem r97 {a b : Commit} (h : ar7 a ≤ 1048576) : qP7 a b = some (decide (a = b)) := by
 unfold ar7 at h
 unfold qP7
 rw [Ca7 (by unfold wL at h; omega), to7 (by omega), bP7]
 obtain ⟨i, s, t⟩ := a; obtain ⟨i2, s2, t2⟩ := b
 by_cases h1 : i = i2 <;> by_cases h2 : s = s2 <;> by_cases h3 : t = t2 <;> simp [h1, h2, h3]
theorem sa7 {a b : Commit} (h : ar7 a ≤ 1048576) : rf7 a b = some (decide (a = b)) := by
 unfold ar7 at h
 unfold rf7
 rw [Hb7 (by unfold wL at h; omega), tp7 (by omega), bP7]
 obtain ⟨i, s, t⟩ := a; obtain ⟨i2, s2, t2⟩ := b
 by_cases h1 : i = i2 <;> by_cases h2 : s = s2 <;> by_cases h3 : t = t2 <;> simp [h1, h2, h3]
theorem pl7 {r : az7} {c : Commit} (h : wL ar7 r.commits ≤ 1048576) : lw7 r c = some (er7 r.commits c) := by
 unfold lw7 er7
 rw [if_pos (aa7 (by unfold wL at h; omega))]
 exact oM7 (gl := e87 c) (ok := fun x => ar7 x ≤ 1048576) (fun _ => rfl) (fun x l k hx => by simp only [e87, r97 hx, Option.bind_some]) _ 0 fun x hx => by have := bn7 (w := ar7) hx; unfold wL at h; omega
theorem iz7 {r : az7} {c : Commit} (h : wL ar7 r.commits ≤ 1048576) : nW7 r c = some (er7 r.commits c) := by
 have key : rh7 r.commits c = some (er7 r.commits c) := by
  unfold rh7 er7
  rw [if_pos (aa7 (by unfold wL at h; omega))]
  exact oM7 (gl := fo7 c) (ok := fun x => ar7 x ≤ 1048576) (fun _ => rfl) (fun x l k hx => by simp only [fo7, uU7, sa7 hx, Option.bind_some]) _ 0 fun x hx => by have := bn7 (w := ar7) hx; unfold wL at h; omega
 unfold nW7
 rw [key]
 rfl
theorem pm7 {r : az7} {n : Str} (h : r.heads.length ≤ 1048576) : lx7 r n = some (cY7 r.heads n) := by
 unfold lx7 cY7
 rw [if_pos (aa7 h)]
 exact oM7 (gl := e97 n) (ok := fun _ => True) (fun _ => rfl) (fun x l k _ => by simp only [e97, bP7]) _ 0 fun _ _ => trivial
theorem hF7 {r : az7} {n : Str} (h : r.heads.length ≤ 1048576) : lE7 r n = some (cY7 r.heads n) := by
 have key : ri7 r.heads n = some (cY7 r.heads n) := by
  unfold ri7 cY7
  rw [if_pos (aa7 h)]
  exact oM7 (gl := fp7 n) (ok := fun _ => True) (fun _ => rfl) (fun x l k _ => by simp only [fp7, uV7, bP7, Option.bind_some]) _ 0 fun _ _ => trivial
 unfold lE7
 rw [key]
 rfl
theorem O97 {up : List Int} {k : Nat} (h : up.length ≤ 1048576) : qQ7 up (k : Int) = some (mUp up k) := by
 unfold qQ7 mUp
 rw [if_pos (aa7 h), h97 (gl := e77 (k : Int)) (p := fun (x : Int) _ => decide (0 ≤ x) && decide (x < (k : Int))) (xs := up) (fun _ => rfl) (fun x l j _ => ?_) up 0 rfl]
 ·generalize bv7 (fun (x : Int) _ => decide (0 ≤ x) && decide (x < (k : Int))) up 0 = A
  cases A
  ·rfl
  ·have e1 : decide ((k : Int) > 0) = decide (0 < k) := E17
   match up with
   | [] => cases e : decide (0 < k) <;> simp [e1, e]
   | [a] => cases e : decide (0 < k) <;> simp [e1, e]
   | [a, b] =>
    have i0 : idx [a, b] 0 = some a := rfl
    have i1 : idx [a, b] 1 = some b := rfl
    by_cases e2 : a = b
    ·subst e2
     cases e : decide (0 < k) <;> simp [e1, e, i0, i1]
    ·cases e : decide (0 < k) <;> simp [e1, e, i0, i1, e2]
   | a :: b :: c :: l =>
    have e2 : ¬ ((l.length : Int) + 1 + 1 + 1 ≤ 2) := by omega
    simp [e2]
 ·have e1 : (x ≥ (k : Int)) ↔ ¬ x < (k : Int) := by omega
  have e2 : (x < 0) ↔ ¬ 0 ≤ x := by omega
  simp only [e77, e1, e2]
  by_cases h1 : 0 ≤ x <;> by_cases h2 : x < (k : Int) <;> simp [h1, h2]
theorem vh7 {r : az7} (h : a47 r ≤ 1048576) : nM7 r = some (dh7 r) := by
 unfold a47 at h
 have hc : wL ar7 r.commits ≤ 1048576 := by omega
 have hh : wL dn7 r.heads ≤ 1048576 := by omega
 have hcl : r.commits.length ≤ 1048576 := by unfold wL at hc; omega
 have hhl : r.heads.length ≤ 1048576 := by unfold wL at hh; omega
 have c1 : ((r.commits.length : Int) < 1) ↔ ¬ 1 ≤ r.commits.length := by omega
 have c2 : ((r.commits.length : Int) > 14) ↔ ¬ r.commits.length ≤ 14 := by omega
 have c3 : ((r.heads.length : Int) < 1) ↔ ¬ 1 ≤ r.heads.length := by omega
 have c4 : ((r.heads.length : Int) > 4) ↔ ¬ r.heads.length ≤ 4 := by omega
 have k1 : dY7 r r.commits 0 = some (if do7 r.commits = true then .inr () else .inl false) := by
  refine h97 (gl := dY7 r) (p := fun c k => mUp c.up k && (a97 c.sheet && (by7 c.note && decide (er7 r.commits c = (k : Int))))) (xs := r.commits) (fun _ => rfl) (fun x l k hd => ?_) r.commits 0 rfl
  have hx : x ∈ r.commits := List.mem_of_getElem? (cg7 hd)
  have hs := bn7 (w := ar7) hx
  have e0 : ar7 x = wL w0 x.up + (wL aK7 x.sheet + (x.note.size + 0)) := rfl
  have hs' : ar7 x ≤ 1048576 := by unfold wL at hc; omega
  have hu : x.up.length ≤ 1048576 := by have : wL w0 x.up = x.up.length + a17 w0 x.up := rfl; omega
  simp only [dY7, O97 hu, gk7 (fs := x.sheet) (by omega), gW7 (s := x.note) (by omega), pl7 hc, Option.bind_some]
  by_cases e : er7 r.commits x = (k : Int) <;> cases mUp x.up k <;> cases a97 x.sheet <;> cases by7 x.note <;> simp [e]
 have k2 : dZ7 r r.heads 0 = some (if qB7 r.commits.length r.heads = true then .inr () else .inl false) := by
  refine h97 (gl := dZ7 r) (p := fun h k => by7 h.name && (decide (cY7 r.heads h.name = (k : Int)) && (decide (0 ≤ h.at_) && decide (h.at_ < (r.commits.length : Int))))) (xs := r.heads) (fun _ => rfl) (fun x l k hd => ?_) r.heads 0 rfl
  have hx : x ∈ r.heads := List.mem_of_getElem? (cg7 hd)
  have hs := bn7 (w := dn7) hx
  have e0 : dn7 x = x.name.size + 0 := rfl
  have hs' : x.name.size ≤ 1048576 := by unfold wL at hh; omega
  have d1 : (x.at_ < 0) ↔ ¬ 0 ≤ x.at_ := by omega
  have d2 : (x.at_ ≥ (r.commits.length : Int)) ↔ ¬ x.at_ < (r.commits.length : Int) := by omega
  simp only [dZ7, gW7 hs', pm7 hhl, Option.bind_some, d1, d2]
  by_cases e : cY7 r.heads x.name = (k : Int) <;> by_cases e1 : 0 ≤ x.at_ <;> by_cases e2 : x.at_ < (r.commits.length : Int) <;> cases by7 x.name <;> simp [e, e1, e2]
 unfold nM7 dh7
 rw [k1, k2, if_pos (aa7 hcl), if_pos (aa7 hhl)]
 simp only [c1, c2, c3, c4]
 by_cases h1 : 1 ≤ r.commits.length <;> by_cases h2 : r.commits.length ≤ 14 <;> by_cases h3 : 1 ≤ r.heads.length <;> by_cases h4 : r.heads.length ≤ 4 <;> cases do7 r.commits <;> cases qB7 r.commits.length r.heads <;> simp [h1, h2, h3, h4]
theorem l87 {r : az7} {k : Int} (h : r.commits.length ≤ 1048576) : lF7 r k = some (decide (0 ≤ k) && decide (k < (r.commits.length : Int))) := by
 unfold lF7
 rw [bB7 (by omega) (by omega), ek7]
 have e : (k ≤ (r.commits.length : Int) - 1) ↔ k < (r.commits.length : Int) := by omega
 simp [e]
theorem l97 (x : Int) : lD7 [] x = some false := rfl
theorem tq7 (a x : Int) : lD7 [a] x = some (decide (x = a)) := by
 have hf : aE7 1 = true := aa7 (by omega)
 by_cases e : x = a
 ·subst e
  simp [lD7, rg7, hf, fn7]
 ·simp [lD7, rg7, hf, fn7, e]
theorem TK7 {c : Commit} {k : Nat} (hk : k ≤ 1048576) (h : c.up.length ≤ 2) : ea7 k c c.up 0 = some (if (bv7 (fun (x : Int) _ => decide (0 ≤ x) && decide (x < (k : Int))) c.up 0 && decide (c.up[0]? = none ∨ c.up[0]? ≠ c.up[1]?)) = true then .inr () else .inl false) := by
 have hw : IntKind.i64.wrap ((k : Int) - 1) = (k : Int) - 1 := bB7 (by omega) (by omega)
 have hi : ∀ x : Int, (x ≤ (k : Int) - 1) ↔ x < (k : Int) := fun x => by omega
 obtain ⟨up, sh, nt⟩ := c
 match up, h with
 | [], _ => rfl
 | [a], _ =>
  have s0 : slc [a] 0 ((0 : Nat) : Int) = some [] := by simp [slc]
  simp only [ea7, ek7, hw, hi, Option.bind_some, s0, l97, bv7]
  by_cases h1 : 0 ≤ a <;> by_cases h2 : a < (k : Int) <;> simp [h1, h2]
 | [a, b], _ =>
  have s0 : slc [a, b] 0 ((0 : Nat) : Int) = some [] := by simp [slc]
  have s1 : slc [a, b] 0 ((0 + 1 : Nat) : Int) = some [a] := by simp [slc]
  simp only [ea7, ek7, hw, hi, Option.bind_some, s0, s1, l97, tq7, bv7]
  by_cases e : b = a
  ·subst e
   by_cases h1 : 0 ≤ b <;> by_cases h2 : b < (k : Int) <;> simp [h1, h2]
  ·have e' : ¬ a = b := fun h => e h.symm
   by_cases h1 : 0 ≤ a <;> by_cases h2 : a < (k : Int) <;> by_cases h3 : 0 ≤ b <;> by_cases h4 : b < (k : Int) <;> simp [h1, h2, h3, h4, e, e']
 | _ :: _ :: _ :: _, h => simp at h
theorem vi7 {r : az7} (h : a47 r ≤ 1048576) : nY7 r = some (dh7 r) := by
 unfold a47 at h
 have hc : wL ar7 r.commits ≤ 1048576 := by omega
 have hh : wL dn7 r.heads ≤ 1048576 := by omega
 have hcl : r.commits.length ≤ 1048576 := by unfold wL at hc; omega
 have hhl : r.heads.length ≤ 1048576 := by unfold wL at hh; omega
 have c1 : ((1 : Int) ≤ r.commits.length) ↔ 1 ≤ r.commits.length := by omega
 have c2 : ((r.commits.length : Int) ≤ 14) ↔ r.commits.length ≤ 14 := by omega
 have c3 : ((1 : Int) ≤ r.heads.length) ↔ 1 ≤ r.heads.length := by omega
 have c4 : ((r.heads.length : Int) ≤ 4) ↔ r.heads.length ≤ 4 := by omega
 have k1 : eb7 r r.commits 0 = some (if do7 r.commits = true then .inr () else .inl false) := by
  refine h97 (gl := eb7 r) (p := fun c k => mUp c.up k && (a97 c.sheet && (by7 c.note && decide (er7 r.commits c = (k : Int))))) (xs := r.commits) (fun _ => rfl) (fun x l k hd => ?_) r.commits 0 rfl
  have hx : x ∈ r.commits := List.mem_of_getElem? (cg7 hd)
  have hkl := b57 hd
  have hs := bn7 (w := ar7) hx
  have e0 : ar7 x = wL w0 x.up + (wL aK7 x.sheet + (x.note.size + 0)) := rfl
  have hs' : ar7 x ≤ 1048576 := by unfold wL at hc; omega
  have hu : x.up.length ≤ 1048576 := by have : wL w0 x.up = x.up.length + a17 w0 x.up := rfl; omega
  have d1 : (((k : Int) == 0) == ((x.up.length : Int) == 0)) = (decide (0 < x.up.length) == decide (0 < k)) := by
   rw [zI, zI, Uv7, Uv7]
   cases decide (k = 0) <;> cases decide (x.up.length = 0) <;> rfl
  have d2 : ((x.up.length : Int) > 2) ↔ ¬ x.up.length ≤ 2 := by omega
  obtain ⟨B, hB⟩ : ∃ B, (decide (0 < x.up.length) == decide (0 < k)) = B := ⟨_, rfl⟩
  rw [hB] at d1
  simp only [eb7, gl7 (fs := x.sheet) (by omega), gX7 (s := x.note) (by omega), iz7 hc, Option.bind_some, d1, d2, mUp, hB]
  clear d1 hB
  by_cases b : x.up.length ≤ 2
  ·rw [TK7 (by omega) b, if_pos (aa7 hu)]
   obtain ⟨D, hD⟩ : ∃ D, (decide (x.up[0]? = none ∨ x.up[0]? ≠ x.up[1]?)) = D := ⟨_, rfl⟩
   rw [hD]
   clear hD
   by_cases e : er7 r.commits x = (k : Int) <;> cases B <;> cases a97 x.sheet <;> cases by7 x.note <;> cases bv7 (fun (x : Int) _ => decide (0 ≤ x) && decide (x < (k : Int))) x.up 0 <;> cases D <;> simp [e, b]
  ·by_cases e : er7 r.commits x = (k : Int) <;> cases B <;> cases a97 x.sheet <;> cases by7 x.note <;> simp [e, b]
 have k2 : ec7 r r.heads 0 = some (if qB7 r.commits.length r.heads = true then .inr () else .inl false) := by
  refine h97 (gl := ec7 r) (p := fun h k => by7 h.name && (decide (cY7 r.heads h.name = (k : Int)) && (decide (0 ≤ h.at_) && decide (h.at_ < (r.commits.length : Int))))) (xs := r.heads) (fun _ => rfl) (fun x l k hd => ?_) r.heads 0 rfl
  have hx : x ∈ r.heads := List.mem_of_getElem? (cg7 hd)
  have hs := bn7 (w := dn7) hx
  have e0 : dn7 x = x.name.size + 0 := rfl
  have hs' : x.name.size ≤ 1048576 := by unfold wL at hh; omega
  simp only [ec7, gX7 hs', hF7 hhl, l87 hcl, Option.bind_some]
  by_cases e : cY7 r.heads x.name = (k : Int) <;> by_cases e1 : 0 ≤ x.at_ <;> by_cases e2 : x.at_ < (r.commits.length : Int) <;> cases by7 x.name <;> simp [e, e1, e2]
 unfold nY7 dh7
 rw [k1, k2, if_pos (aa7 hcl), if_pos (aa7 hhl), ek7, ek7]
 simp only [c1, c2, c3, c4, Option.bind_some]
 by_cases h1 : 1 ≤ r.commits.length <;> by_cases h2 : r.commits.length ≤ 14 <;> by_cases h3 : 1 ≤ r.heads.length <;> by_cases h4 : r.heads.length ≤ 4 <;> cases do7 r.commits <;> cases qB7 r.commits.length r.heads <;> simp [h1, h2, h3, h4]
theorem vj7 {r : az7} {k : Int} (h : a47 r ≤ 1048576) : jN7 r k = some (dh7 r && (decide (0 ≤ k) && decide (k < (r.commits.length : Int)))) := by
 unfold jN7
 rw [vh7 h]
 by_cases h1 : 0 ≤ k <;> cases dh7 r <;> simp [h1]
theorem zr7 {n j : Nat} : (List.replicate n false)[j]? ≠ some true := by
 rw [List.getElem?_replicate]
 split <;> simp
theorem od7 {cs : List Commit} {F : List Nat} (hF : ∀ f ∈ F, f < cs.length) : Marks cs F cs.length (dI7 (List.replicate cs.length false) (F.map fun (f : Nat) => (f : Int))) where
 len := by rw [ji7, List.length_replicate]
 snd := fun j hj => by
  rcases cr7.1 hj with hj | ⟨_, u, hu, rfl⟩
  ·exact absurd hj zr7
  ·obtain ⟨f, hf, rfl⟩ := List.mem_map.1 hu
   exact ⟨f, hf, .refl f⟩
 frm := fun f hf => cr7.2 (.inr ⟨by rw [List.length_replicate]; exact hF f hf, f, List.mem_map.2 ⟨f, hf, rfl⟩, rfl⟩)
 cl := fun j x u hj hb hx hu => by
  have := jX7 hx
  omega
theorem ma7 : ∀ (l : List Int) (k : Nat) (m : List Bool), (∀ u ∈ l, 0 ≤ u ∧ u < (m.length : Int)) → fa7 l k m = some (dI7 m l)
 | [], k, m, h => rfl
 | u :: l, k, m, h => by
  have hu := h u (by simp)
  obtain ⟨b, hb⟩ := oa7 (xs := m) (i := u.toNat) (by omega)
  simp only [fa7, pk7 hu.1, hb, Option.bind_some]
  exact ma7 l (k + 1) _ fun v hv => by
   rw [List.length_set]
   exact h v (by simp [hv])
theorem mb7 {r : az7} {v : Nat} {x : Commit} (hx : r.commits[v]? = some x) (hu : ∀ u ∈ x.up, 0 ≤ u ∧ u < (v : Int)) (h2 : x.up.length ≤ 2) : ∀ (l : List Int) (j n : Nat) (m : List Bool), x.up.drop j = l → l.length < n → m[v]? = some true → c87 r (v : Int) n (j : Int) m = some (dI7 m l)
 | _, _, 0, _, _, h, _ => by omega
 | [], j, n + 1, m, h, hn, hm => by
  simp only [c87, ah7, hx, Option.bind_some, sV7 h]
  rfl
 | u :: l, j, n + 1, m, h, hn, hm => by
  have hue := cg7 h
  have hul := hu u (List.mem_of_getElem? hue)
  have hvl := jX7 hm
  obtain ⟨b, hb⟩ := oa7 (xs := m) (i := u.toNat) (by omega)
  have hjl := b57 h
  have hw : IntKind.i64.wrap ((j : Int) + 1) = ((j + 1 : Nat) : Int) := by rw [bB7 (by omega) (by omega)]; omega
  simp only [c87, ah7, hx, Option.bind_some, sW7 h, hm, hue, pk7 hul.1, hb, if_true, hw]
  exact mb7 hx hu h2 l (j + 1) n _ (h47 h) (by simp at hn; omega) (by rw [List.getElem?_set_ne (by omega)]; exact hm)
theorem sb7 {r : az7} {v n : Nat} {x : Commit} {m : List Bool} (hx : r.commits[v]? = some x) (hm : m[v]? = some false) : c87 r (v : Int) (n + 1) 0 m = some m := by
 simp only [c87, ah7, hx, Option.bind_some, hm]
 split
 ·rfl
 ·rfl
theorem hG7 {r : az7} {F : List Nat} (hc : r67 r.commits) : ∀ (k n : Nat) (m : List Bool), k < n → k ≤ r.commits.length → k ≤ 1048576 → Marks r.commits F k m → fb7 r n ((k : Int) - 1) m = some (kD7 r.commits F)
 | _, 0, _, h, _, _, _ => by omega
 | 0, n + 1, m, _, _, _, h => by
  rw [h.fin]
  rfl
 | k + 1, n + 1, m, hn, hk, hb, h => by
  obtain ⟨x, hx⟩ := oa7 (xs := r.commits) (i := k) (by omega)
  obtain ⟨b, hb2⟩ := oa7 (xs := m) (i := k) (by rw [h.len]; omega)
  have e1 : (((k + 1 : Nat) : Int) - 1) = (k : Int) := by omega
  have hw : IntKind.i64.wrap ((k : Int) - 1) = (k : Int) - 1 := bB7 (by omega) (by omega)
  have hge : decide ((k : Int) ≥ 0) = true := decide_eq_true (by omega)
  have hr : aQ7 = 4194303 + 1 := rfl
  rw [e1]
  simp only [fb7, hge, if_true, hw]
  cases b
  ·rw [hr, sb7 hx hb2]
   exact hG7 hc k n m (by omega) (by omega) (by omega) (h.skip (by rw [hb2]; simp))
  ·have h2 := hc.two x (List.mem_of_getElem? hx)
   have := mb7 hx (hc.lt k x hx) h2 x.up 0 aQ7 m rfl (by rw [hr]; omega) hb2
   simp only [Int.ofNat_zero, Int.natCast_zero] at this
   rw [this]
   exact hG7 hc k n _ (by omega) (by omega) (by omega) (h.step hc hb2 hx)
theorem zs7 {r : az7} {F : List Nat} (hc : r67 r.commits) (hl : r.commits.length ≤ 1048576) (hF : ∀ f ∈ F, f < r.commits.length) (hFl : F.length ≤ 1048576) : jO7 r (F.map fun (f : Nat) => (f : Int)) = some (kD7 r.commits F) := by
 have hr : aQ7 = 4194303 + 1 := rfl
 unfold jO7
 rw [if_pos (by simp [aa7 hl]), if_pos (aa7 (by simpa using hFl)), Int.toNat_natCast, ma7 _ _ _ (fun u hu => by
  obtain ⟨f, hf, rfl⟩ := List.mem_map.1 hu
  have := hF f hf
  rw [List.length_replicate]
  omega), bB7 (by omega) (by omega)]
 simp only [Option.bind_some]
 rw [hG7 hc r.commits.length aQ7 _ (by rw [hr]; omega) (Nat.le_refl _) hl (od7 hF)]
 rfl
theorem jk7 {r : az7} {k : Nat} (hc : r67 r.commits) (hl : r.commits.length ≤ 1048576) (hk : k < r.commits.length) : jO7 r [(k : Int)] = some (kD7 r.commits [k]) := by
 have := zs7 (r := r) (F := [k]) hc hl (by simpa using hk) (by simp)
 simpa using this
theorem vk7 : ∀ (l : List Int) (k : Nat) (m : List Bool), (∀ u ∈ l, 0 ≤ u ∧ u < (m.length : Int)) → fq7 l k m = some (dI7 m l)
 | [], k, m, h => rfl
 | u :: l, k, m, h => by
  have hu := h u (by simp)
  obtain ⟨b, hb⟩ := oa7 (xs := m) (i := u.toNat) (by omega)
  simp only [fq7, pk7 hu.1, hb, Option.bind_some]
  exact vk7 l (k + 1) _ fun v hv => by
   rw [List.length_set]
   exact h v (by simp [hv])
theorem pn7 {r : az7} {F : List Nat} (hc : r67 r.commits) : ∀ (k n : Nat) (m : List Bool), k < n → k ≤ r.commits.length → k ≤ 1048576 → Marks r.commits F k m → ed7 r n ((k : Int) - 1) m = some (kD7 r.commits F)
 | _, 0, _, h, _, _, _ => by omega
 | 0, n + 1, m, _, _, _, h => by
  rw [h.fin]
  rfl
 | k + 1, n + 1, m, hn, hk, hb, h => by
  obtain ⟨x, hx⟩ := oa7 (xs := r.commits) (i := k) (by omega)
  obtain ⟨b, hb2⟩ := oa7 (xs := m) (i := k) (by rw [h.len]; omega)
  have e1 : (((k + 1 : Nat) : Int) - 1) = (k : Int) := by omega
  have hw : IntKind.i64.wrap ((k : Int) - 1) = (k : Int) - 1 := bB7 (by omega) (by omega)
  have hge : decide ((k : Int) ≥ 0) = true := decide_eq_true (by omega)
  rw [e1]
  simp only [ed7, hge, if_true, hw, ah7, hb2, Option.bind_some]
  cases b
  ·exact pn7 hc k n m (by omega) (by omega) (by omega) (h.skip (by rw [hb2]; simp))
  ·have h2 := hc.two x (List.mem_of_getElem? hx)
   simp only [hx, if_true, Option.bind_some]
   rw [if_pos (aa7 (by omega)), vk7 x.up 0 m (fun u hu => by
    have := hc.lt k x hx u hu
    rw [h.len]
    omega)]
   exact pn7 hc k n _ (by omega) (by omega) (by omega) (h.step hc hb2 hx)
theorem sc7 {r : az7} {k : Nat} (hc : r67 r.commits) (hl : r.commits.length ≤ 1048576) (hk : k < r.commits.length) : id7 r (k : Int) = some (kD7 r.commits [k]) := by
 have hr : aQ7 = 4194303 + 1 := rfl
 have h0 : (List.replicate r.commits.length false)[k]? = some false := by rw [List.getElem?_replicate, if_pos hk]
 have hm : Marks r.commits [k] (k + 1) ((List.replicate r.commits.length false).set k true) := by
  have := od7 (cs := r.commits) (F := [k]) (by simpa using hk)
  exact tk7 hc (by simpa [dI7] using this) (by simp) (by omega)
 have e1 : (((k + 1 : Nat) : Int) - 1) = (k : Int) := by omega
 have := pn7 hc (k + 1) aQ7 _ (by rw [hr]; omega) (by omega) (by omega) hm
 rw [e1] at this
 unfold id7
 rw [if_pos (by simp [aa7 hl])]
 simp only [Int.toNat_natCast, ah7, h0, Option.bind_some, this]
theorem iA7 {r : az7} {v : Nat} {x : Commit} (hx : r.commits[v]? = some x) (h2 : x.up.length ≤ 2) : ∀ (l : List Int) (j n : Nat) (m : List Bool), x.up.drop j = l → l.length < n → (∀ u ∈ l, 0 ≤ u ∧ u < (m.length : Int)) → dp7 r (v : Int) n (j : Int) m = some (dI7 m l)
 | _, _, 0, _, _, h, _ => by omega
 | [], j, n + 1, m, h, hn, hm => by
  simp only [dp7, ah7, hx, Option.bind_some, sV7 h]
  rfl
 | u :: l, j, n + 1, m, h, hn, hm => by
  have hue := cg7 h
  have hul := hm u (by simp)
  obtain ⟨b, hb⟩ := oa7 (xs := m) (i := u.toNat) (by omega)
  have hjl := b57 h
  have hw : IntKind.i64.wrap ((j : Int) + 1) = ((j + 1 : Nat) : Int) := by rw [bB7 (by omega) (by omega)]; omega
  simp only [dp7, ah7, hx, Option.bind_some, sW7 h, hue, pk7 hul.1, hb, if_true, hw]
  exact iA7 hx h2 l (j + 1) n _ (h47 h) (by simp at hn; omega) (fun v hv => by rw [List.length_set]; exact hm v (by simp [hv]))
open Classical in
theorem fK7 {r : az7} {a b : Nat} (hc : r67 r.commits) : ∀ (k n : Nat) (out : List Int) (d : List Bool), k < n → k ≤ r.commits.length → k ≤ 1048576 → out.length + k ≤ 1048576 → d.length = r.commits.length → (∀ j, j < k → (d[j]? = some true ↔ ∃ c x u, k ≤ c ∧ Com r.commits a b c ∧ r.commits[c]? = some x ∧ u ∈ x.up ∧ j = u.toNat)) → cx7 (kD7 r.commits [a]) (kD7 r.commits [b]) r n ((k : Int) - 1) out d = some (out ++ f17 (fun k => decide (mt7 r.commits a b k)) k)
 | _, 0, _, _, h, _, _, _, _, _ => by omega
 | 0, n + 1, out, d, _, _, _, _, _, _ => by
  simp only [f17, List.append_nil]
  rfl
 | k + 1, n + 1, out, d, hn, hk, hb, ho, hd, hi => by
  obtain ⟨x, hx⟩ := oa7 (xs := r.commits) (i := k) (by omega)
  obtain ⟨bd, hbd⟩ := oa7 (xs := d) (i := k) (by omega)
  have e1 : (((k + 1 : Nat) : Int) - 1) = (k : Int) := by omega
  have hw : IntKind.i64.wrap ((k : Int) - 1) = (k : Int) - 1 := bB7 (by omega) (by omega)
  have hge : decide ((k : Int) ≥ 0) = true := decide_eq_true (by omega)
  have h2 := hc.two x (List.mem_of_getElem? hx)
  have hr : aQ7 = 4194303 + 1 := rfl
  have skip : ¬ Com r.commits a b k → cx7 (kD7 r.commits [a]) (kD7 r.commits [b]) r n ((k : Int) - 1) out d = some (out ++ f17 (fun k => decide (mt7 r.commits a b k)) (k + 1)) := fun hnc => by
   have hnb : ¬ mt7 r.commits a b k := fun h => hnc h.1
   rw [fK7 hc k n out d (by omega) (by omega) (by omega) (by omega) hd fun j hj => ?_]
   ·simp [f17, hnb]
   ·rw [hi j (by omega)]
    constructor
    ·rintro ⟨c, y, u, h1, h3⟩
     exact ⟨c, y, u, by omega, h3⟩
    ·rintro ⟨c, y, u, h1, h3⟩
     rcases Nat.eq_or_lt_of_le h1 with rfl | h1
     ·exact absurd h3.1 hnc
     ·exact ⟨c, y, u, h1, h3⟩
  rw [e1]
  simp only [cx7, hge, if_true, hw, ah7, eI7 (show k < r.commits.length by omega), hbd, Option.bind_some]
  by_cases h1 : Anc r.commits a k
  ·by_cases h3 : Anc r.commits b k
   ·have hcom : Com r.commits a b k := ⟨h1, h3⟩
    have hdb : bd = true ↔ ¬ mt7 r.commits a b k := by
     rw [← zh7 hc hcom]
     have := hi k (by omega)
     rw [hbd] at this
     simp only [Option.some.injEq] at this
     rw [this]
     constructor
     ·rintro ⟨c, y, u, _, h⟩
      exact ⟨c, y, u, h⟩
     ·rintro ⟨c, y, u, h4, h5, h6, h7⟩
      have := hc.lt _ _ h5 _ h6
      exact ⟨c, y, u, by omega, h4, h5, h6, h7⟩
    have hstep : dp7 r (k : Int) aQ7 0 d = some (dI7 d x.up) := by
     have := iA7 hx h2 x.up 0 aQ7 d rfl (by rw [hr]; omega) (fun u hu => by have := hc.lt k x hx u hu; omega)
     simpa using this
    have ih : ∀ out', out'.length + k ≤ 1048576 → cx7 (kD7 r.commits [a]) (kD7 r.commits [b]) r n ((k : Int) - 1) out' (dI7 d x.up) = some (out' ++ f17 (fun k => decide (mt7 r.commits a b k)) k) := fun out' ho' => by
     refine fK7 hc k n out' _ (by omega) (by omega) (by omega) ho' (by rw [ji7, hd]) fun j hj => ?_
     rw [cr7, hi j (by omega)]
     constructor
     ·rintro (⟨c, y, u, h4, h5⟩ | ⟨_, u, h4, rfl⟩)
      ·exact ⟨c, y, u, by omega, h5⟩
      ·exact ⟨k, x, u, Nat.le_refl _, hcom, hx, h4, rfl⟩
     ·rintro ⟨c, y, u, h4, h5, h6, h7, h8⟩
      rcases Nat.eq_or_lt_of_le h4 with rfl | h4
      ·rw [hx] at h6
       cases h6
       exact .inr ⟨by omega, u, h7, h8.symm⟩
      ·exact .inl ⟨c, y, u, h4, h5, h6, h7, h8⟩
    simp only [h1, h3, decide_true, Bool.not_true, hstep, Option.bind_some]
    cases bd
    ·have hbase : mt7 r.commits a b k := Classical.byContradiction fun h => by simpa using hdb.2 h
     simp only [Bool.not_false, if_true]
     rw [if_neg (by decide), if_neg (by decide), if_pos (aa7 (by simp; omega))]
     simp only [Option.bind_some]
     rw [ih _ (by simp; omega)]
     simp [f17, hbase]
    ·have hbase : ¬ mt7 r.commits a b k := hdb.1 rfl
     simp only [Bool.not_true]
     rw [if_neg (by decide), if_neg (by decide), if_neg (by decide)]
     simp only [Option.bind_some]
     rw [ih _ (by omega)]
     simp [f17, hbase]
   ·simp only [h1, h3, decide_true, decide_false, Bool.not_true, Bool.not_false]
    rw [if_neg (by decide), if_pos trivial]
    exact skip fun h => h3 h.2
  ·simp only [h1, decide_false, Bool.not_false, if_true]
   exact skip fun h => h1 h.1
def inR (r : az7) (k : Int) : Bool := dh7 r && (decide (0 ≤ k) && decide (k < (r.commits.length : Int)))
theorem jY7 {r : az7} {k : Int} (h : inR r k = true) : dh7 r = true ∧ ∃ n : Nat, k = (n : Int) ∧ n < r.commits.length := by
 unfold inR at h
 simp only [Bool.and_eq_true, decide_eq_true_eq] at h
 exact ⟨h.1, k.toNat, by omega, by omega⟩
theorem tr7 {r : az7} {a b : Int} (hw : a47 r ≤ 1048576) : qR7 r a b = some (if (inR r a && inR r b) = true then ob7 r.commits a.toNat b.toNat else []) := by
 unfold qR7
 rw [vj7 hw, vj7 hw]
 by_cases h1 : inR r a = true
 ·by_cases h2 : inR r b = true
  ·obtain ⟨hr, i, rfl, hi⟩ := jY7 h1
   obtain ⟨_, j, rfl, hj⟩ := jY7 h2
   have hc := eH7 hr
   have hl := (ix7 hr).1.2
   have hrd : aQ7 = 4194303 + 1 := rfl
   rw [h1, h2]
   simp only [inR] at h1 h2
   rw [h1, h2, jk7 hc (by omega) hi, jk7 hc (by omega) hj]
   simp only [Option.bind_some, Bool.not_true, if_true]
   rw [if_neg (by decide), if_neg (by decide), if_pos (by simp [aa7 (n := r.commits.length) (by omega)]), bB7 (by omega) (by omega), Int.toNat_natCast, fK7 hc r.commits.length aQ7 [] _ (by rw [hrd]; omega) (Nat.le_refl _) (by omega) (by simp; omega) (by simp) (fun k hk => ?_)]
   ·rfl
   ·constructor
    ·exact fun h => absurd h zr7
    ·rintro ⟨c, x, u, h3, h4, h5, _⟩
     have := jX7 h5
     omega
  ·have h2' := h2
   simp only [inR] at h1 h2'
   rw [h1]
   simp only [Bool.not_eq_true] at h2'
   rw [h2']
   simp [h2]
 ·have h1' := h1
  simp only [inR, Bool.not_eq_true] at h1'
  rw [h1']
  simp [h1]
open Classical in
theorem wB7 {r : az7} (hc : r67 r.commits) (hl : r.commits.length ≤ 1048576) {k : Nat} (hk : k < r.commits.length) {out : List Int} (ho : ∀ u ∈ out, ∃ j : Nat, u = (j : Int) ∧ j < r.commits.length) (hlen : out.length ≤ 1048576) : rl7 out r (k : Int) = some (decide (∃ j : Nat, (j : Int) ∈ out ∧ Anc r.commits j k)) := by
 have key0 : rk7 out r (k : Int) = some (bQ7 (fun u => decide (Anc r.commits u.toNat k)) out 0) := by
  unfold rk7
  rw [if_pos (aa7 hlen)]
  exact oM7 (gl := fr7 r (k : Int)) (p := fun u => decide (Anc r.commits u.toNat k)) (ok := fun u => ∃ j : Nat, u = (j : Int) ∧ j < r.commits.length) (fun _ => rfl) (fun u l i hu => by
   obtain ⟨j, rfl, hj⟩ := hu
   simp only [fr7, uW7, sc7 hc hl hj, Option.bind_some, ah7, eI7 hk, Int.toNat_natCast]) out 0 ho
 unfold rl7
 rw [key0]
 ·simp only [Option.bind_some, Option.some.injEq]
  have key : ∀ (l : List Int) (i : Nat), (∀ u ∈ l, ∃ j : Nat, u = (j : Int) ∧ j < r.commits.length) → (bQ7 (fun u => decide (Anc r.commits u.toNat k)) l i ≥ 0 ↔ ∃ j : Nat, (j : Int) ∈ l ∧ Anc r.commits j k) := fun l => by
   induction l with
   | nil => intro i _; simp [bQ7]
   | cons u l ih =>
    intro i hl
    obtain ⟨j, rfl, hj⟩ := hl u (by simp)
    simp only [bQ7, Int.toNat_natCast]
    by_cases hp : Anc r.commits j k
    ·rw [if_pos (by simpa using hp)]
     exact ⟨fun _ => ⟨j, by simp, hp⟩, fun _ => by omega⟩
    ·rw [if_neg (by simpa using hp), ih (i + 1) fun u hu => hl u (by simp [hu])]
     constructor
     ·rintro ⟨j', h1, h2⟩
      exact ⟨j', by simp [h1], h2⟩
     ·rintro ⟨j', h1, h2⟩
      rcases List.mem_cons.1 h1 with h1 | h1
      ·have : j' = j := by omega
       subst this
       exact absurd h2 hp
      ·exact ⟨j', h1, h2⟩
  exact decide_eq_decide.2 (key out 0 ho)
open Classical in
theorem fL7 {r : az7} {a b : Nat} (hc : r67 r.commits) (hl : r.commits.length ≤ 1048576) : ∀ (k n : Nat) (out : List Int), k < n → k ≤ r.commits.length → out.length + k ≤ 1048576 → (∀ u, u ∈ out ↔ ∃ j : Nat, u = (j : Int) ∧ k ≤ j ∧ mt7 r.commits a b j ∧ j < r.commits.length) → ie7 (kD7 r.commits [a]) (kD7 r.commits [b]) r n out ((k : Int) - 1) = some (out ++ f17 (fun k => decide (mt7 r.commits a b k)) k)
 | _, 0, _, h, _, _, _ => by omega
 | 0, n + 1, out, _, _, _, _ => by
  simp only [f17, List.append_nil]
  rfl
 | k + 1, n + 1, out, hn, hk, ho, hi => by
  have e1 : (((k + 1 : Nat) : Int) - 1) = (k : Int) := by omega
  have hw : IntKind.i64.wrap ((k : Int) - 1) = (k : Int) - 1 := bB7 (by omega) (by omega)
  have hge : decide ((k : Int) ≥ 0) = true := decide_eq_true (by omega)
  have skip : ¬ mt7 r.commits a b k → ie7 (kD7 r.commits [a]) (kD7 r.commits [b]) r n out ((k : Int) - 1) = some (out ++ f17 (fun k => decide (mt7 r.commits a b k)) (k + 1)) := fun hnb => by
   rw [fL7 hc hl k n out (by omega) (by omega) (by omega) fun u => ?_]
   ·simp [f17, hnb]
   ·rw [hi u]
    constructor
    ·rintro ⟨j, h1, h2, h3⟩
     exact ⟨j, h1, by omega, h3⟩
    ·rintro ⟨j, h1, h2, h3⟩
     rcases Nat.eq_or_lt_of_le h2 with rfl | h2
     ·exact absurd h3.1 hnb
     ·exact ⟨j, h1, h2, h3⟩
  have take : mt7 r.commits a b k → ie7 (kD7 r.commits [a]) (kD7 r.commits [b]) r n (out ++ [(k : Int)]) ((k : Int) - 1) = some (out ++ f17 (fun k => decide (mt7 r.commits a b k)) (k + 1)) := fun hb => by
   rw [fL7 hc hl k n _ (by omega) (by omega) (by simp; omega) fun u => ?_]
   ·simp [f17, hb]
   ·rw [List.mem_append, hi u, List.mem_singleton]
    constructor
    ·rintro (⟨j, h1, h2, h3⟩ | rfl)
     ·exact ⟨j, h1, by omega, h3⟩
     ·exact ⟨k, rfl, Nat.le_refl _, hb, by omega⟩
    ·rintro ⟨j, h1, h2, h3⟩
     rcases Nat.eq_or_lt_of_le h2 with rfl | h2
     ·exact .inr h1
     ·exact .inl ⟨j, h1, h2, h3⟩
  rw [e1]
  simp only [ie7, hge, if_true, hw, ah7, eI7 (show k < r.commits.length by omega), Option.bind_some]
  by_cases h1 : Anc r.commits a k
  ·by_cases h3 : Anc r.commits b k
   ·have hcom : Com r.commits a b k := ⟨h1, h3⟩
    rw [wB7 hc hl (by omega) (fun u hu => by
     obtain ⟨j, h4, _, _, h5⟩ := (hi u).1 hu
     exact ⟨j, h4, h5⟩) (by omega)]
    have hct : (∃ j : Nat, (j : Int) ∈ out ∧ Anc r.commits j k) ↔ ¬ mt7 r.commits a b k := by
     rw [← vd7 hc hcom]
     constructor
     ·rintro ⟨j, h4, h5⟩
      obtain ⟨j', h6, h7, h8, h9⟩ := (hi _).1 h4
      have : j = j' := by omega
      subst this
      exact ⟨j, by omega, h8, h5⟩
     ·rintro ⟨j, h4, h5, h6⟩
      refine ⟨j, (hi _).2 ⟨j, rfl, by omega, h5, ?_⟩, h6⟩
      rcases h6.last with rfl | ⟨c, x, u, h7, h8, _⟩
      ·omega
      ·rcases Nat.lt_or_ge j r.commits.length with h | h
       ·exact h
       ·exfalso
        have : ∀ p q, Anc r.commits p q → r.commits.length ≤ p → q = p := fun p q hpq hp => by
         induction hpq with
         | refl => rfl
         | up ha hx hu ih =>
          have := jX7 hx
          omega
        have := this j k h6 h
        omega
    simp only [h1, h3, decide_true, Bool.not_true, Option.bind_some]
    rw [if_neg (by decide), if_neg (by decide)]
    by_cases hb : mt7 r.commits a b k
    ·have hf : decide (∃ j : Nat, (j : Int) ∈ out ∧ Anc r.commits j k) = false := decide_eq_false fun h => hct.1 h hb
     rw [hf]
     simp only [Bool.not_false, if_true]
     rw [if_pos (aa7 (by simp; omega))]
     exact take hb
    ·have hf : decide (∃ j : Nat, (j : Int) ∈ out ∧ Anc r.commits j k) = true := decide_eq_true (hct.2 hb)
     rw [hf]
     simp only [Bool.not_true]
     rw [if_neg (by decide)]
     exact skip hb
   ·simp only [h1, h3, decide_true, decide_false, Bool.not_true, Bool.not_false]
    rw [if_neg (by decide), if_pos trivial]
    exact skip fun h => h3 h.1.2
  ·simp only [h1, decide_false, Bool.not_false, if_true]
   exact skip fun h => h1 h.1.1
theorem ts7 {r : az7} {a b : Int} (hw : a47 r ≤ 1048576) : rm7 r a b = some (if (inR r a && inR r b) = true then ob7 r.commits a.toNat b.toNat else []) := by
 have hla : r.commits.length ≤ 1048576 := by unfold a47 wL at hw; omega
 unfold rm7
 rw [vi7 hw, l87 hla, l87 hla]
 by_cases h1 : inR r a = true
 ·by_cases h2 : inR r b = true
  ·obtain ⟨hr, i, rfl, hi⟩ := jY7 h1
   obtain ⟨_, j, rfl, hj⟩ := jY7 h2
   have hc := eH7 hr
   have hl := (ix7 hr).1.2
   have hrd : aQ7 = 4194303 + 1 := rfl
   rw [h1, h2, hr]
   simp only [Option.bind_some, Bool.not_true, sc7 hc hla hi, sc7 hc hla hj, vb7]
   have e1 : (decide ((0 : Int) ≤ (i : Int)) && decide ((i : Int) < (r.commits.length : Int))) = true := by simp; omega
   have e2 : (decide ((0 : Int) ≤ (j : Int)) && decide ((j : Int) < (r.commits.length : Int))) = true := by simp; omega
   rw [e1, e2]
   simp only [Bool.not_true, Bool.and_true, if_true]
   rw [if_neg (by decide), if_neg (by decide), if_neg (by decide), bB7 (by omega) (by omega), fL7 hc hla r.commits.length aQ7 [] (by rw [hrd]; omega) (Nat.le_refl _) (by simp; omega) (fun u => ?_)]
   ·rfl
   ·constructor
    ·intro h; cases h
    ·rintro ⟨j, _, h3, _, h4⟩
     omega
  ·rw [h1]
   unfold inR at h1 h2
   simp only [Bool.and_eq_true] at h1
   simp only [h1.1, h1.2, Bool.true_and, Bool.not_eq_true] at h2
   simp only [h1.1, h2, inR]
   simp only [h1.2]
   simp
 ·unfold inR at h1
  by_cases hr : dh7 r = true
  ·simp only [hr, Bool.true_and, Bool.not_eq_true] at h1
   simp [hr, h1, inR]
  ·simp [hr, inR]
noncomputable def cJ7 (r : az7) (a b : Int) : Int := ((if (inR r a && inR r b) = true then ob7 r.commits a.toNat b.toNat else []).head?).getD (-1)
theorem wC7 {r : az7} {a b : Int} (hw : a47 r ≤ 1048576) : q67 r a b = some (cJ7 r a b) := by
 unfold q67 cJ7
 rw [tr7 hw]
 simp only [Option.bind_some]
 generalize (if (inR r a && inR r b) = true then ob7 r.commits a.toNat b.toNat else []) = l
 cases l with
 | nil => rfl
 | cons x l =>
  rw [if_neg (by simp; omega)]
  rfl
theorem wD7 {r : az7} {a b : Int} (hw : a47 r ≤ 1048576) : rw7 r a b = some (cJ7 r a b) := by
 unfold rw7 cJ7
 rw [ts7 hw]
 simp only [Option.bind_some]
 generalize (if (inR r a && inR r b) = true then ob7 r.commits a.toNat b.toNat else []) = l
 cases l with
 | nil => rfl
 | cons x l =>
  rw [if_neg (by simp; omega)]
  rfl
def kM : Int := 4398046511104
theorem Pa7 (n : Int) : (DC7 [n]).size = 1 := rfl
theorem vl7 {a b : Str} (h : a.size + b.size ≤ 1000) : ∃ t, cat a b = some t ∧ t.size = a.size + b.size := ⟨a ++ b, by unfold cat; rw [if_pos (by omega)], by simp⟩
theorem iB7 : ∀ (m n w : Nat) (s : Str), w < 10 ^ m → m ≤ 18 → m < n → s.size + m ≤ 100 → ∃ t, fw7 n (w : Int) s = some t ∧ t.size ≤ s.size + m
 | m, 0, w, s, _, _, h, _ => by omega
 | 0, n + 1, w, s, h1, _, _, _ => by
  have : w = 0 := by simpa using h1
  subst this
  exact ⟨s, rfl, by omega⟩
 | m + 1, n + 1, w, s, h1, h2, h3, h4 => by
  simp only [fw7]
  by_cases hv : 0 < w
  ·rw [if_pos (by simpa using hv)]
   have hd : Int.tdiv (w : Int) 10 = ((w / 10 : Nat) : Int) := by
    rw [Int.tdiv_eq_ediv_of_nonneg (by omega)]
    rfl
   have hlt : w / 10 < 10 ^ m := by
    rw [Nat.pow_succ] at h1
    exact Nat.div_lt_of_lt_mul (by rw [Nat.mul_comm]; exact h1)
   have h5 : (10 : Nat) ^ m ≤ 10 ^ 18 := Nat.pow_le_pow_right (by decide) (by omega)
   have h6 : (10 : Nat) ^ 18 = 1000000000000000000 := by decide
   obtain ⟨t, ht, hs⟩ := vl7 (a := DC7 [(IntKind.u8.wrap (IntKind.i64.wrap (48 + (Int.tmod (w : Int) 10))))]) (b := s) (by rw [Pa7]; omega)
   rw [Pa7] at hs
   rw [ht, hd, bB7 (by omega) (by omega)]
   simp only [Option.bind_some]
   obtain ⟨t2, h7, h8⟩ := iB7 m n (w / 10) t hlt (by omega) (by omega) (by omega)
   exact ⟨t2, h7, by omega⟩
  ·rw [if_neg (by simpa using hv)]
   exact ⟨s, rfl, by omega⟩
theorem bj7 {k : Int} (h : k ≤ kM) : ∃ t, cT7 k = some t := by
 unfold cT7
 by_cases h0 : k ≤ 0
 ·exact ⟨_, by rw [if_pos (by simpa using h0)]⟩
 ·rw [if_neg (by simpa using h0)]
  have e : k = ((k.toNat : Nat) : Int) := by omega
  have hz : (⟨#[]⟩ : Str).size = 0 := rfl
  have hm : (⟨#[109]⟩ : Str).size = 1 := rfl
  have hr : aQ7 = 4194303 + 1 := rfl
  obtain ⟨t, h1, h2⟩ := iB7 18 aQ7 k.toNat (⟨#[]⟩ : Str) (by
   have : (10 : Nat) ^ 18 = 1000000000000000000 := by decide
   unfold kM at h
   omega) (by omega) (by rw [hr]; omega) (by rw [hz]; omega)
  rw [← e] at h1
  obtain ⟨t2, h3, _⟩ := vl7 (a := (⟨#[109]⟩ : Str)) (b := t) (by rw [hm]; omega)
  exact ⟨t2, by rw [h1]; simp only [Option.bind_some, h3]⟩
theorem zt7 {α : Type} {gl : Nat → Int → Int → List α → Option (Int × List α)} {hl : List α → Nat → Int → Int → Prop} {c w : α → Nat} (h0 : ∀ n k xs, gl (n + 1) k (xs.length : Int) xs = some (k, xs)) (hE : ∀ x k, w x ≤ 3145728 → 0 < k → k + c x ≤ kM → ∃ y, (∀ n (i : Nat) xs, xs[i]? = some x → i < 3145728 → gl (n + 1) k (i : Int) xs = gl n (k + c x) ((i + 1 : Nat) : Int) (xs.set i y)) ∧ ∀ l j K, hl l (j + 1) (k + c x) K → hl (y :: l) j k K) (hn : ∀ j k, hl [] j k k) :
  ∀ (rest pre : List α) (n : Nat) (k : Int), (∀ x ∈ rest, w x ≤ 3145728) → rest.length < n → pre.length + rest.length ≤ 3145728 → 0 < k → k + a17 c rest ≤ kM → ∃ rest', rest'.length = rest.length ∧ gl n k (pre.length : Int) (pre ++ rest) = some (k + a17 c rest, pre ++ rest') ∧ ∀ j, hl rest' j k (k + a17 c rest)
 | _, _, 0, _, _, h, _, _, _ => by omega
 | [], pre, n + 1, k, _, _, _, _, _ => ⟨[], rfl, by simpa [a17] using h0 n k pre, fun j => by simpa [a17] using hn j k⟩
 | x :: rest, pre, n + 1, k, hw, hl1, hlen, hk, hb => by
  have hs : a17 c (x :: rest) = c x + a17 c rest := rfl
  rw [hs] at hb ⊢
  obtain ⟨y, h1, h2⟩ := hE x k (hw x (by simp)) hk (by omega)
  simp only [List.length_cons] at hl1 hlen
  obtain ⟨r, h3, h4, h5⟩ := zt7 h0 hE hn rest (pre ++ [y]) n (k + c x) (fun z hz => hw z (by simp [hz])) (by omega) (by simp; omega) (by omega) (by omega)
  have e0 : k + (((c x + a17 c rest : Nat)) : Int) = k + c x + a17 c rest := by omega
  refine ⟨y :: r, by simp [h3], ?_, fun j => by rw [e0]; exact h2 r j _ (h5 (j + 1))⟩
  rw [h1 n pre.length (pre ++ x :: rest) (by simp) (by omega)]
  have e1 : (pre ++ x :: rest).set pre.length y = pre ++ [y] ++ rest := by simp
  have e2 : ((pre.length + 1 : Nat) : Int) = ((pre ++ [y]).length : Int) := by simp
  rw [e1, e2, h4]
  simp only [List.append_assoc, List.singleton_append, Option.some.injEq, Prod.mk.injEq, and_true]
  omega
def c1 {α : Type} (_ : α) : Nat := 1
def c2 {α : Type} (_ : α) : Nat := 2
def noh {α : Type} (_ : List α) (_ : Nat) (_ _ : Int) : Prop := True
theorem c17 {α : Type} {gf : List α → Int → Option (Int × List α)} {gl : Nat → Int → Int → List α → Option (Int × List α)} {hl : List α → Nat → Int → Int → Prop} {c w : α → Nat} (hg : ∀ a k, gf a k = (gl aQ7 k 0 a).bind fun q => some (q.1, q.2)) (h0 : ∀ n k xs, gl (n + 1) k (xs.length : Int) xs = some (k, xs)) (hE : ∀ x k, w x ≤ 3145728 → 0 < k → k + c x ≤ kM → ∃ y, (∀ n (i : Nat) xs, xs[i]? = some x → i < 3145728 → gl (n + 1) k (i : Int) xs = gl n (k + c x) ((i + 1 : Nat) : Int) (xs.set i y)) ∧ ∀ l j K, hl l (j + 1) (k + c x) K → hl (y :: l) j k K) (hn : ∀ j k, hl [] j k k) : ∀ x k, wL w x ≤ 3145728 → 0 < k → k + a17 c x ≤ kM → ∃ y, gf x k = some (k + a17 c x, y) ∧ y.length = x.length ∧ hl y 0 k (k + a17 c x) := fun x k hw hk hb => by
 have hr : aQ7 = 4194303 + 1 := rfl
 have hlen : x.length ≤ 3145728 := by unfold wL at hw; omega
 obtain ⟨r, h1, h2, h3⟩ := zt7 h0 hE hn x [] aQ7 k (fun y hy => by have := bn7 (w := w) hy; unfold wL at hw; omega) (by rw [hr]; omega) (by simpa using hlen) hk hb
 refine ⟨r, ?_, h1, h3 0⟩
 rw [hg]
 simp only [List.nil_append, List.length_nil] at h2
 have h2' : gl aQ7 k 0 x = some (k + a17 c x, r) := h2
 rw [h2']
 rfl
theorem mw {k : Int} (h : 0 < k) (h2 : k ≤ kM) : IntKind.i64.wrap (k + 1) = k + 1 := by unfold kM at h2; exact bB7 (by omega) (by omega)
theorem miw {i : Nat} (h : i < 3145728) : IntKind.i64.wrap ((i : Int) + 1) = ((i + 1 : Nat) : Int) := by rw [bB7 (by omega) (by omega)]; omega
theorem eJ7 {α : Type} {xs : List α} {i : Nat} {x : α} (h : xs[i]? = some x) : decide ((i : Int) < (xs.length : Int)) = true := decide_eq_true (by have := jX7 h; omega)
theorem dJ7 {α : Type} {xs : List α} {i : Nat} {x y : α} (h : xs[i]? = some x) : (xs.set i y)[i]? = some y := List.getElem?_set_self (jX7 h)
theorem eK7 {n : Nat} : decide ((n : Int) < (n : Int)) = false := decide_eq_false (by omega)
def Hc7 (l : List Int) (j : Nat) (k K : Int) : Prop := fz7 l j k = some (.inr K)
theorem zu7 {α : Type} : ∀ l : List α, a17 (c1 (α := α)) l = l.length := fun l => by
 induction l with
 | nil => rfl
 | cons x l ih => simp only [a17, ih, c1, List.length_cons]; omega
theorem Hd7 {x : List Int} {k : Int} (hw : x.length ≤ 3145728) (hk : 0 < k) (hb : k + x.length ≤ kM) : ∃ y, hf7 x k = some (k + x.length, y) ∧ y.length = x.length ∧ n47 y k = some (k + x.length) := by
 obtain ⟨y, h1, h2, h3⟩ := c17 (gf := hf7) (hl := Hc7) (c := c1) (w := w0) (fun _ _ => rfl) (fun n k xs => by simp only [cD7, eK7]; rfl) (fun x k _ hk hb => ⟨k, fun n i xs hx hi => by
  unfold c1 at hb ⊢
  simp only [cD7, eJ7 hx, if_true, ah7, hx, Option.bind_some, mw hk (by omega), miw hi, Int.toNat_natCast, Int.natCast_one], fun l j K h => by
  unfold c1 at h hb
  unfold Hc7 at h ⊢
  simp only [fz7, bne_self_eq_false, mw hk (by omega)]
  rw [if_neg (by decide)]
  simpa only [Int.natCast_one] using h⟩) (fun j k => rfl) x k (by unfold wL; rw [qw7]; exact hw) hk (by rw [zu7]; exact hb)
 rw [zu7] at h1 h3
 refine ⟨y, h1, h2, ?_⟩
 unfold Hc7 at h3
 unfold n47
 rw [if_pos (dR7 (by omega)), h3]
 rfl
def eu7 (f : Feat) : Nat := 2 + (a17 c2 f.shape.pts + a17 c2 f.tags)
def bR7 (c : Commit) : Nat := a17 c1 c.up + (a17 eu7 c.sheet + 1)
def jl7 (r : az7) : Nat := a17 bR7 r.commits + a17 c2 r.heads
theorem Cc7 {x : List Int} {k : Int} (hw : wL w0 x ≤ 3145728) (hk : 0 < k) (hb : k + a17 c1 x ≤ kM) : ∃ y, hf7 x k = some (k + a17 c1 x, y) := by
 obtain ⟨y, h, _⟩ := c17 (gf := hf7) (hl := noh) (c := c1) (w := w0) (fun _ _ => rfl) (fun n k xs => by simp only [cD7, eK7]; rfl) (fun x k _ hk hb => ⟨k, fun n i xs hx hi => by
  unfold c1 at hb ⊢
  simp only [cD7, eJ7 hx, if_true, ah7, hx, Option.bind_some, mw hk (by omega), miw hi, Int.toNat_natCast, Int.natCast_one], fun _ _ _ _ => trivial⟩) (fun _ _ => trivial) x k hw hk hb
 exact ⟨y, h⟩
theorem mc7 {k : Int} : k + ((2 : Nat) : Int) = k + 1 + 1 := by omega
theorem He7 {x : List Pt} {k : Int} (hw : wL w0 x ≤ 3145728) (hk : 0 < k) (hb : k + a17 c2 x ≤ kM) : ∃ y, if7 x k = some (k + a17 c2 x, y) := by
 obtain ⟨y, h, _⟩ := c17 (gf := if7) (hl := noh) (c := c2) (w := w0) (fun _ _ => rfl) (fun n k xs => by simp only [cB7, eK7]; rfl) (fun x k _ hk hb => by
  unfold c2 at hb ⊢
  refine ⟨⟨k, k + 1⟩, fun n i xs hx hi => ?_, fun _ _ _ _ => trivial⟩
  simp only [cB7, eJ7 hx, if_true, ah7, hx, Option.bind_some, mw hk (by omega), mw (show 0 < k + 1 by omega) (by omega), miw hi, Int.toNat_natCast, dJ7 hx, List.set_set, mc7]) (fun _ _ => trivial) x k hw hk hb
 exact ⟨y, h⟩
theorem Cd7 {x : List Tag} {k : Int} (hw : wL kB7 x ≤ 3145728) (hk : 0 < k) (hb : k + a17 c2 x ≤ kM) : ∃ y, ig7 x k = some (k + a17 c2 x, y) := by
 obtain ⟨y, h, _⟩ := c17 (gf := ig7) (hl := noh) (c := c2) (w := kB7) (fun _ _ => rfl) (fun n k xs => by simp only [cC7, eK7]; rfl) (fun x k _ hk hb => by
  unfold c2 at hb ⊢
  obtain ⟨t1, h1⟩ := bj7 (k := k) (by omega)
  obtain ⟨t2, h2⟩ := bj7 (k := k + 1) (by omega)
  refine ⟨⟨t1, t2⟩, fun n i xs hx hi => ?_, fun _ _ _ _ => trivial⟩
  simp only [cC7, eJ7 hx, if_true, ah7, hx, h1, h2, Option.bind_some, mw hk (by omega), mw (show 0 < k + 1 by omega) (by omega), miw hi, Int.toNat_natCast, dJ7 hx, List.set_set, mc7]) (fun _ _ => trivial) x k hw hk hb
 exact ⟨y, h⟩
theorem zv7 {x : List bg7} {k : Int} (hw : wL dn7 x ≤ 3145728) (hk : 0 < k) (hb : k + a17 c2 x ≤ kM) : ∃ y, ij7 x k = some (k + a17 c2 x, y) := by
 obtain ⟨y, h, _⟩ := c17 (gf := ij7) (hl := noh) (c := c2) (w := dn7) (fun _ _ => rfl) (fun n k xs => by simp only [cG7, eK7]; rfl) (fun x k _ hk hb => by
  unfold c2 at hb ⊢
  obtain ⟨t1, h1⟩ := bj7 (k := k) (by omega)
  refine ⟨⟨t1, k + 1⟩, fun n i xs hx hi => ?_, fun _ _ _ _ => trivial⟩
  simp only [cG7, eJ7 hx, if_true, ah7, hx, h1, Option.bind_some, mw hk (by omega), mw (show 0 < k + 1 by omega) (by omega), miw hi, Int.toNat_natCast, dJ7 hx, List.set_set, mc7]) (fun _ _ => trivial) x k hw hk hb
 exact ⟨y, h⟩
theorem zw7 {x : List Feat} {k : Int} (hw : wL aK7 x ≤ 3145728) (hk : 0 < k) (hb : k + a17 eu7 x ≤ kM) : ∃ y, ih7 x k = some (k + a17 eu7 x, y) := by
 obtain ⟨y, h, _⟩ := c17 (gf := ih7) (hl := noh) (c := eu7) (w := aK7) (fun _ _ => rfl) (fun n k xs => by simp only [cE7, eK7]; rfl) (fun x k hwx hk hb => by
  unfold eu7 at hb ⊢
  unfold aK7 df7 at hwx
  obtain ⟨t1, h1⟩ := bj7 (k := k) (by omega)
  obtain ⟨p, h2⟩ := He7 (x := x.shape.pts) (k := k + 1 + 1) (by omega) (by omega) (by omega)
  obtain ⟨q, h3⟩ := Cd7 (x := x.tags) (k := k + 1 + 1 + a17 c2 x.shape.pts) (by omega) (by omega) (by omega)
  refine ⟨⟨t1, ⟨k + 1, p⟩, q⟩, fun n i xs hx hi => ?_, fun _ _ _ _ => trivial⟩
  simp only [cE7, eJ7 hx, if_true, ah7, hx, h1, h2, h3, Option.bind_some, mw hk (by omega), mw (show 0 < k + 1 by omega) (by omega), miw hi, Int.toNat_natCast, dJ7 hx, List.set_set]
  congr 1
  omega) (fun _ _ => trivial) x k hw hk hb
 exact ⟨y, h⟩
theorem tt7 {x : List Commit} {k : Int} (hw : wL ar7 x ≤ 3145728) (hk : 0 < k) (hb : k + a17 bR7 x ≤ kM) : ∃ y, ii7 x k = some (k + a17 bR7 x, y) := by
 obtain ⟨y, h, _⟩ := c17 (gf := ii7) (hl := noh) (c := bR7) (w := ar7) (fun _ _ => rfl) (fun n k xs => by simp only [cF7, eK7]; rfl) (fun x k hwx hk hb => by
  unfold bR7 at hb ⊢
  unfold ar7 at hwx
  obtain ⟨p, h2⟩ := Cc7 (x := x.up) (k := k) (by omega) (by omega) (by omega)
  obtain ⟨q, h3⟩ := zw7 (x := x.sheet) (k := k + a17 c1 x.up) (by omega) (by omega) (by omega)
  obtain ⟨t1, h1⟩ := bj7 (k := k + a17 c1 x.up + a17 eu7 x.sheet) (by omega)
  refine ⟨⟨p, q, t1⟩, fun n i xs hx hi => ?_, fun _ _ _ _ => trivial⟩
  simp only [cF7, eJ7 hx, if_true, ah7, hx, h1, h2, h3, Option.bind_some, mw (show 0 < k + a17 c1 x.up + a17 eu7 x.sheet by omega) (by omega), miw hi, Int.toNat_natCast, dJ7 hx, List.set_set]
  congr 1
  omega) (fun _ _ => trivial) x k hw hk hb
 exact ⟨y, h⟩
theorem Ce7 {x : az7} {k : Int} (hw : a47 x ≤ 3145728) (hk : 0 < k) (hb : k + jl7 x ≤ kM) : ∃ y, hg7 x k = some (k + jl7 x, y) := by
 unfold jl7 at hb ⊢
 unfold a47 at hw
 obtain ⟨p, h2⟩ := tt7 (x := x.commits) (k := k) (by omega) (by omega) (by omega)
 obtain ⟨q, h3⟩ := zv7 (x := x.heads) (k := k + a17 bR7 x.commits) (by omega) (by omega) (by omega)
 refine ⟨⟨p, q⟩, ?_⟩
 unfold hg7
 simp only [h2, h3, Option.bind_some, Option.some.injEq, Prod.mk.injEq, and_true]
 omega
theorem md7 {α : Type} {c w : α → Nat} {a : Nat} (h : ∀ x, c x ≤ a + a * w x) : ∀ xs : List α, a17 c xs ≤ a * wL w xs
 | [] => by simp [a17]
 | x :: xs => by
  have ih := md7 h xs
  have := h x
  unfold wL at ih ⊢
  simp only [a17, List.length_cons]
  have e : a * (xs.length + 1 + (w x + a17 w xs)) = a + a * w x + a * (xs.length + a17 w xs) := by
   rw [show xs.length + 1 + (w x + a17 w xs) = 1 + w x + (xs.length + a17 w xs) by omega, Nat.mul_add, Nat.mul_add, Nat.mul_one]
  omega
theorem Cf7 (f : Feat) : eu7 f ≤ 2 + 2 * aK7 f := by
 have h1 := md7 (c := c2) (w := w0) (a := 2) (fun x => by unfold c2; omega) f.shape.pts
 have h2 := md7 (c := c2) (w := kB7) (a := 2) (fun x => by unfold c2; omega) f.tags
 unfold eu7 aK7 df7
 omega
theorem wE7 (c : Commit) : bR7 c ≤ 2 + 2 * ar7 c := by
 have h1 := md7 (c := c1) (w := w0) (a := 2) (fun x => by unfold c1; omega) c.up
 have h2 := md7 (c := eu7) (w := aK7) (a := 2) (fun x => by have := Cf7 x; omega) c.sheet
 unfold bR7 ar7
 omega
theorem vm7 (r : az7) : jl7 r ≤ 2 * a47 r := by
 have h1 := md7 (c := bR7) (w := ar7) (a := 2) (fun x => by have := wE7 x; omega) r.commits
 have h2 := md7 (c := c2) (w := dn7) (a := 2) (fun x => by unfold c2; omega) r.heads
 unfold jl7 a47
 omega
theorem sd7 {α : Type} {p : α → Bool} : ∀ {l : List α} {k : Nat}, bQ7 p l k = -1 ∨ ∃ j x, bQ7 p l k = ((k + j : Nat) : Int) ∧ l[j]? = some x ∧ p x = true
 | [], k => .inl rfl
 | x :: l, k => by
  simp only [bQ7]
  by_cases h : p x = true
  ·rw [if_pos h]
   exact .inr ⟨0, x, rfl, rfl, h⟩
  ·rw [if_neg h]
   rcases sd7 (p := p) (l := l) (k := k + 1) with h1 | ⟨j, y, h1, h2, h3⟩
   ·exact .inl h1
   ·exact .inr ⟨j + 1, y, by rw [h1]; congr 1; omega, by simpa using h2, h3⟩
theorem po7 {r : az7} (hr : dh7 r = true) (n : Str) : cY7 r.heads n = -1 ∨ ∃ (k a : Nat) (h : bg7), cY7 r.heads n = (k : Int) ∧ r.heads[k]? = some h ∧ h.name = n ∧ h.at_ = (a : Int) ∧ a < r.commits.length := by
 rcases sd7 (p := fun x : bg7 => decide (x.name = n)) (l := r.heads) (k := 0) with h | ⟨j, x, h1, h2, h3⟩
 ·exact .inl h
 ·refine .inr ⟨j, x.at_.toNat, x, by unfold cY7; rw [h1]; simp, h2, by simpa using h3, ?_⟩
  unfold dh7 at hr
  simp only [Bool.and_eq_true] at hr
  have := c07 hr.2.2.2.2.2 j x h2
  simp only [Bool.and_eq_true, decide_eq_true_eq] at this
  omega
theorem oe7 {n : Int} (h : 0 < n) : decide (n < 0) = false := decide_eq_false (by omega)
theorem Cg7 {x : List Int} {k : Int} (hw : wL w0 x ≤ 3145728) (hk : 0 < k) (hb : k + a17 c1 x ≤ kM) : ∃ y, hf7 x k = some (k + a17 c1 x, y) ∧ n47 y k = some (k + a17 c1 x) := by
 rw [zu7] at hb ⊢
 obtain ⟨y, h1, h2, h3⟩ := Hd7 (x := x) (k := k) (by unfold wL at hw; omega) hk hb
 exact ⟨y, h1, h3⟩
theorem Hf7 {x : List Pt} {k : Int} (hw : wL w0 x ≤ 3145728) (hk : 0 < k) (hb : k + a17 c2 x ≤ kM) : ∃ y, if7 x k = some (k + a17 c2 x, y) ∧ rI7 y k = some (k + a17 c2 x) := by
 obtain ⟨y, h, h2, h3⟩ := c17 (gf := if7) (hl := fun l j k K => fx7 l j k = some (.inr K)) (c := c2) (w := w0) (fun _ _ => rfl) (fun n k xs => by simp only [cB7, eK7]; rfl) (fun x k _ hk hb => by
  unfold c2 at hb ⊢
  refine ⟨⟨k, k + 1⟩, fun n i xs hx hi => ?_, fun l j K hl => ?_⟩
  ·simp only [cB7, eJ7 hx, if_true, ah7, hx, Option.bind_some, mw hk (by omega), mw (show 0 < k + 1 by omega) (by omega), miw hi, Int.toNat_natCast, dJ7 hx, List.set_set, mc7]
  ·rw [mc7] at hl
   simp only [fx7, bne_self_eq_false, mw hk (by omega), mw (show 0 < k + 1 by omega) (by omega)]
   exact hl) (fun _ _ => rfl) x k hw hk hb
 refine ⟨y, h, ?_⟩
 unfold rI7
 rw [if_pos (dR7 (by unfold wL at hw; omega)), h3]
 rfl
theorem Ch7 {x : List Tag} {k : Int} (hw : wL kB7 x ≤ 3145728) (hk : 0 < k) (hb : k + a17 c2 x ≤ kM) : ∃ y, ig7 x k = some (k + a17 c2 x, y) ∧ rJ7 y k = some (k + a17 c2 x) := by
 obtain ⟨y, h, h2, h3⟩ := c17 (gf := ig7) (hl := fun l j k K => fy7 l j k = some (.inr K)) (c := c2) (w := kB7) (fun _ _ => rfl) (fun n k xs => by simp only [cC7, eK7]; rfl) (fun x k _ hk hb => by
  unfold c2 at hb ⊢
  obtain ⟨t1, h1⟩ := bj7 (k := k) (by omega)
  obtain ⟨t2, h2⟩ := bj7 (k := k + 1) (by omega)
  refine ⟨⟨t1, t2⟩, fun n i xs hx hi => ?_, fun l j K hl => ?_⟩
  ·simp only [cC7, eJ7 hx, if_true, ah7, hx, h1, h2, Option.bind_some, mw hk (by omega), mw (show 0 < k + 1 by omega) (by omega), miw hi, Int.toNat_natCast, dJ7 hx, List.set_set, mc7]
  ·rw [mc7] at hl
   simp only [fy7, c77, Bool.not_true, h1, h2, Option.bind_some, mw hk (by omega), mw (show 0 < k + 1 by omega) (by omega)]
   exact hl) (fun _ _ => rfl) x k hw hk hb
 refine ⟨y, h, ?_⟩
 unfold rJ7
 rw [if_pos (dR7 (by unfold wL at hw; omega)), h3]
 rfl
theorem zx7 {x : List bg7} {k : Int} (hw : wL dn7 x ≤ 3145728) (hk : 0 < k) (hb : k + a17 c2 x ≤ kM) : ∃ y, ij7 x k = some (k + a17 c2 x, y) ∧ rM7 y k = some (k + a17 c2 x) := by
 obtain ⟨y, h, h2, h3⟩ := c17 (gf := ij7) (hl := fun l j k K => fC7 l j k = some (.inr K)) (c := c2) (w := dn7) (fun _ _ => rfl) (fun n k xs => by simp only [cG7, eK7]; rfl) (fun x k _ hk hb => by
  unfold c2 at hb ⊢
  obtain ⟨t1, h1⟩ := bj7 (k := k) (by omega)
  refine ⟨⟨t1, k + 1⟩, fun n i xs hx hi => ?_, fun l j K hl => ?_⟩
  ·simp only [cG7, eJ7 hx, if_true, ah7, hx, h1, Option.bind_some, mw hk (by omega), mw (show 0 < k + 1 by omega) (by omega), miw hi, Int.toNat_natCast, dJ7 hx, List.set_set, mc7]
  ·rw [mc7] at hl
   simp only [fC7, c77, bne_self_eq_false, Bool.not_true, h1, Option.bind_some, mw hk (by omega), mw (show 0 < k + 1 by omega) (by omega)]
   exact hl) (fun _ _ => rfl) x k hw hk hb
 refine ⟨y, h, ?_⟩
 unfold rM7
 rw [if_pos (dR7 (by unfold wL at hw; omega)), h3]
 rfl
theorem zy7 {x : List Feat} {k : Int} (hw : wL aK7 x ≤ 3145728) (hk : 0 < k) (hb : k + a17 eu7 x ≤ kM) : ∃ y, ih7 x k = some (k + a17 eu7 x, y) ∧ rK7 y k = some (k + a17 eu7 x) := by
 obtain ⟨y, h, h2, h3⟩ := c17 (gf := ih7) (hl := fun l j k K => fA7 l j k = some (.inr K)) (c := eu7) (w := aK7) (fun _ _ => rfl) (fun n k xs => by simp only [cE7, eK7]; rfl) (fun x k hwx hk hb => by
  unfold eu7 at hb ⊢
  unfold aK7 df7 at hwx
  obtain ⟨t1, h1⟩ := bj7 (k := k) (by omega)
  obtain ⟨p, h2, h2'⟩ := Hf7 (x := x.shape.pts) (k := k + 1 + 1) (by omega) (by omega) (by omega)
  obtain ⟨q, h3, h3'⟩ := Ch7 (x := x.tags) (k := k + 1 + 1 + a17 c2 x.shape.pts) (by omega) (by omega) (by omega)
  have e : k + (((2 + (a17 c2 x.shape.pts + a17 c2 x.tags) : Nat)) : Int) = k + 1 + 1 + a17 c2 x.shape.pts + a17 c2 x.tags := by omega
  refine ⟨⟨t1, ⟨k + 1, p⟩, q⟩, fun n i xs hx hi => ?_, fun l j K hl => ?_⟩
  ·simp only [cE7, eJ7 hx, if_true, ah7, hx, h1, h2, h3, Option.bind_some, mw hk (by omega), mw (show 0 < k + 1 by omega) (by omega), miw hi, Int.toNat_natCast, dJ7 hx, List.set_set]
   rw [e]
  ·rw [e] at hl
   simp only [fA7, c77, bne_self_eq_false, Bool.not_true, h1, h2', h3', Option.bind_some, mw hk (by omega), mw (show 0 < k + 1 by omega) (by omega), oe7 (show 0 < k + 1 + 1 + (a17 c2 x.shape.pts : Int) by omega), oe7 (show 0 < k + 1 + 1 + (a17 c2 x.shape.pts : Int) + a17 c2 x.tags by omega)]
   exact hl) (fun _ _ => rfl) x k hw hk hb
 refine ⟨y, h, ?_⟩
 unfold rK7
 rw [if_pos (dR7 (by unfold wL at hw; omega)), h3]
 rfl
theorem tu7 {x : List Commit} {k : Int} (hw : wL ar7 x ≤ 3145728) (hk : 0 < k) (hb : k + a17 bR7 x ≤ kM) : ∃ y, ii7 x k = some (k + a17 bR7 x, y) ∧ rL7 y k = some (k + a17 bR7 x) := by
 obtain ⟨y, h, h2, h3⟩ := c17 (gf := ii7) (hl := fun l j k K => fB7 l j k = some (.inr K)) (c := bR7) (w := ar7) (fun _ _ => rfl) (fun n k xs => by simp only [cF7, eK7]; rfl) (fun x k hwx hk hb => by
  unfold bR7 at hb ⊢
  unfold ar7 at hwx
  obtain ⟨p, h2, h2'⟩ := Cg7 (x := x.up) (k := k) (by omega) (by omega) (by omega)
  obtain ⟨q, h3, h3'⟩ := zy7 (x := x.sheet) (k := k + a17 c1 x.up) (by omega) (by omega) (by omega)
  obtain ⟨t1, h1⟩ := bj7 (k := k + a17 c1 x.up + a17 eu7 x.sheet) (by omega)
  have e : k + (((a17 c1 x.up + (a17 eu7 x.sheet + 1) : Nat)) : Int) = k + a17 c1 x.up + a17 eu7 x.sheet + 1 := by omega
  refine ⟨⟨p, q, t1⟩, fun n i xs hx hi => ?_, fun l j K hl => ?_⟩
  ·simp only [cF7, eJ7 hx, if_true, ah7, hx, h1, h2, h3, Option.bind_some, mw (show 0 < k + a17 c1 x.up + a17 eu7 x.sheet by omega) (by omega), miw hi, Int.toNat_natCast, dJ7 hx, List.set_set]
   rw [e]
  ·rw [e] at hl
   simp only [fB7, c77, Bool.not_true, h1, h2', h3', Option.bind_some, mw (show 0 < k + a17 c1 x.up + a17 eu7 x.sheet by omega) (by omega), oe7 (show 0 < k + (a17 c1 x.up : Int) by omega), oe7 (show 0 < k + (a17 c1 x.up : Int) + a17 eu7 x.sheet by omega)]
   exact hl) (fun _ _ => rfl) x k hw hk hb
 refine ⟨y, h, ?_⟩
 unfold rL7
 rw [if_pos (dR7 (by unfold wL at hw; omega)), h3]
 rfl
theorem Ci7 {x : az7} {k : Int} (hw : a47 x ≤ 3145728) (hk : 0 < k) (hb : k + jl7 x ≤ kM) : ∃ y, hg7 x k = some (k + jl7 x, y) ∧ n87 y k = some (k + jl7 x) := by
 unfold jl7 at hb ⊢
 unfold a47 at hw
 obtain ⟨p, h2, h2'⟩ := tu7 (x := x.commits) (k := k) (by omega) (by omega) (by omega)
 obtain ⟨q, h3, h3'⟩ := zx7 (x := x.heads) (k := k + a17 bR7 x.commits) (by omega) (by omega) (by omega)
 have e : k + (((a17 bR7 x.commits + a17 c2 x.heads : Nat)) : Int) = k + a17 bR7 x.commits + a17 c2 x.heads := by omega
 rw [e]
 refine ⟨⟨p, q⟩, ?_, ?_⟩
 ·unfold hg7
  simp only [h2, h3, Option.bind_some]
 ·unfold n87
  simp only [h2', h3', Option.bind_some, oe7 (show 0 < k + (a17 bR7 x.commits : Int) by omega), oe7 (show 0 < k + (a17 bR7 x.commits : Int) + a17 c2 x.heads by omega)]
  rfl
theorem iC7 {α : Type} {g : α → Option α} {gl : List α → Nat → List α → Option (List α)} (h0 : ∀ k v, gl [] k v = some v) (h1 : ∀ x l k v, gl (x :: l) k v = (g x).bind fun y => if aE7 (v ++ [y]).length = true then gl l (k + 1) (v ++ [y]) else none) : ∀ (l : List α) (k : Nat) (v : List α), (∀ x ∈ l, g x = some x) → v.length + l.length ≤ 1048576 → gl l k v = some (v ++ l)
 | [], k, v, _, _ => by rw [h0]; simp
 | x :: l, k, v, hx, hl => by
  simp only [List.length_cons] at hl
  rw [h1, hx x (by simp)]
  simp only [Option.bind_some]
  rw [if_pos (aa7 (by simp; omega)), iC7 h0 h1 l (k + 1) _ (fun y hy => hx y (by simp [hy])) (by simp; omega)]
  simp
theorem pp7 {f : Feat} (h : aK7 f ≤ 1048576) : lz7 f = some f := by
 unfold aK7 df7 wL at h
 unfold lz7 ly7
 rw [if_pos (aa7 (by simp; omega))]
 simp only [Option.bind_some]
 rw [if_pos (aa7 (by simp; omega))]
 rfl
theorem pq7 {fs : List Feat} (h : wL aK7 fs ≤ 1048576) : nL7 fs = some fs := by
 have hl : fs.length ≤ 1048576 := by unfold wL at h; omega
 unfold nL7
 rw [if_pos (aa7 hl), iC7 (gl := gE7) (fun _ _ => rfl) (fun _ _ _ _ => rfl) fs 0 [] (fun x hx => pp7 (by have := bn7 (w := aK7) hx; unfold wL at h; omega)) (by simpa using hl)]
 rfl
theorem Hg7 {c : Commit} (h : ar7 c ≤ 1048576) : jM7 c = some c := by
 unfold ar7 at h
 unfold jM7
 rw [if_pos (aa7 (by unfold wL at h; simp; omega)), pq7 (by omega)]
 rfl
theorem Cj7 {r : az7} (h : a47 r ≤ 1048576) : q87 r = some r := by
 unfold a47 at h
 have hl : r.commits.length ≤ 1048576 := by unfold wL at h; omega
 unfold q87
 rw [if_pos (aa7 (by unfold wL at h; simp; omega)), if_pos (aa7 hl), iC7 (gl := gF7) (fun _ _ => rfl) (fun _ _ _ _ => rfl) r.commits 0 [] (fun x hx => Hg7 (by have := bn7 (w := ar7) hx; unfold wL at h; omega)) (by simpa using hl)]
 rfl
theorem fM7 {f : Feat} (h : aK7 f ≤ 1048576) : jQ7 f = some f := by
 unfold aK7 df7 wL at h
 unfold jQ7 lG7
 rw [if_pos (aa7 (by simp; omega))]
 simp only [Option.bind_some]
 rw [if_pos (aa7 (by simp; omega))]
 rfl
theorem se7 {fs : List Feat} (h : wL aK7 fs ≤ 1048576) : rj7 fs = some fs := by
 have hl : fs.length ≤ 1048576 := by unfold wL at h; omega
 unfold rj7
 rw [if_pos (aa7 hl), iC7 (gl := gM7) (fun _ _ => rfl) (fun _ _ _ _ => rfl) fs 0 [] (fun x hx => fM7 (by have := bn7 (w := aK7) hx; unfold wL at h; omega)) (by simpa using hl)]
 rfl
theorem iD7 {c : Commit} (h : ar7 c ≤ 1048576) : nX7 c = some c := by
 unfold ar7 at h
 unfold nX7
 rw [if_pos (aa7 (by unfold wL at h; simp; omega)), se7 (by omega)]
 rfl
theorem tv7 {r : az7} (h : a47 r ≤ 1048576) : rz7 r = some r := by
 unfold a47 at h
 have hl : r.commits.length ≤ 1048576 := by unfold wL at h; omega
 unfold rz7
 rw [if_pos (aa7 (by unfold wL at h; simp; omega)), if_pos (aa7 hl), iC7 (gl := gO7) (fun _ _ => rfl) (fun _ _ _ _ => rfl) r.commits 0 [] (fun x hx => iD7 (by have := bn7 (w := ar7) hx; unfold wL at h; omega)) (by simpa using hl)]
 rfl
def cnt (m : List Bool) : Nat → Nat
 | 0 => 0
 | k + 1 => cnt m k + (if hl7 m k = true then 1 else 0)
def Ck7 (m : List Bool) (c : Commit) : Commit := ⟨c.up.map fun u => (cnt m u.toNat : Int), c.sheet, c.note⟩
def gm7 (m : List Bool) : List Commit → Nat → List Commit
 | [], _ => []
 | x :: l, k => if hl7 m k = true then Ck7 m x :: gm7 m l (k + 1) else gm7 m l (k + 1)
def eL7 (hs : List bg7) (k : Nat) (h : bg7) (v : Int) : List bg7 := hs.set k ⟨h.name, v⟩
def TL7 (r : az7) (n : Str) (s : List Feat) (t : Str) : az7 × Int :=
 if (dh7 r && (a97 s && by7 t)) = true then
  (match idx r.heads (cY7 r.heads n) with
  | none => (r, 1)
  | some h => match idx r.commits h.at_ with
   | none => (r, 1)
   | some x => if x.sheet = s then (r, 3) else
    if er7 r.commits ⟨[h.at_], s, t⟩ < 0 then
     (if r.commits.length = 14 then (r, 2) else (⟨r.commits ++ [⟨[h.at_], s, t⟩], eL7 r.heads (cY7 r.heads n).toNat h r.commits.length⟩, 0))
    else (⟨r.commits, eL7 r.heads (cY7 r.heads n).toNat h (er7 r.commits ⟨[h.at_], s, t⟩)⟩, 0))
 else (⟨[], []⟩, 4)
theorem pr7 {α : Type} {w : α → Nat} : ∀ (xs : List α) (k : Nat) (x y : α), xs[k]? = some x → w y ≤ w x → a17 w (xs.set k y) ≤ a17 w xs
 | [], k, x, y, h, _ => by simp at h
 | z :: xs, 0, x, y, h, hw => by
  simp only [List.getElem?_cons_zero, Option.some.injEq] at h
  subst h
  simp only [List.set_cons_zero, a17]
  omega
 | z :: xs, k + 1, x, y, h, hw => by
  have := pr7 xs k x y (by simpa using h) hw
  simp only [List.set_cons_succ, a17]
  omega
theorem vn7 {hs : List bg7} {n : Str} {h : bg7} {v : Int} (hh : idx hs (cY7 hs n) = some h) : wL dn7 (eL7 hs (cY7 hs n).toNat h v) ≤ wL dn7 hs := by
 have h1 := (aq7 hh).2
 have := pr7 (w := dn7) hs _ h ⟨h.name, v⟩ h1 (Nat.le_refl _)
 unfold wL eL7
 simp only [List.length_set]
 omega
theorem me7 {α : Type} {w : α → Nat} : ∀ (a : List α) (x : α), a17 w (a ++ [x]) = a17 w a + w x
 | [], x => by simp [a17]
 | y :: a, x => by simp only [List.cons_append, a17, me7 a x]; omega
theorem Pb7 {r : az7} {n t : Str} {s : List Feat} : a47 (TL7 r n s t).1 ≤ a47 r + (2 + (wL aK7 s + t.size)) := by
 unfold TL7
 split
 ·split
  ·simp only; omega
  ·rename_i h hh
   split
   ·simp only; omega
   ·split
    ·simp only; omega
    ·split
     ·split
      ·simp only; omega
      ·have := vn7 (v := (r.commits.length : Int)) hh
       simp only [a47]
       have e : wL ar7 (r.commits ++ [⟨[h.at_], s, t⟩]) = wL ar7 r.commits + (1 + ar7 ⟨[h.at_], s, t⟩) := by
        unfold wL
        rw [me7]
        simp
        omega
       have e2 : ar7 ⟨[h.at_], s, t⟩ = 1 + (wL aK7 s + (t.size + 0)) := by unfold ar7; simp [wL, a17, w0]
       omega
     ·have := vn7 (v := er7 r.commits ⟨[h.at_], s, t⟩) hh
      simp only [a47]
      omega
 ·have : a47 ⟨[], []⟩ = 0 := rfl
  simp only [this]
  omega
theorem zz7 {α : Type} {w : α → Nat} {n : Nat} : ∀ {xs : List α}, (∀ x ∈ xs, w x ≤ n) → a17 w xs ≤ n * xs.length
 | [], h => by simp [a17]
 | x :: xs, h => by
  have h1 := h x (by simp)
  have h2 := zz7 (xs := xs) (n := n) fun y hy => h y (by simp [hy])
  simp only [a17, List.length_cons, Nat.mul_add, Nat.mul_one]
  omega
abbrev onS : Str := ⟨#[111, 110]⟩
def nt (s : Str) : Prop := s.size ≤ 7 ∧ s ≠ onS
theorem TM7 {α : Type} {p : α → Nat → Bool} {l : List α} {k : Nat} (h : bv7 p l k = true) {x : α} (hx : x ∈ l) : ∃ j, p x j = true := by
 obtain ⟨j, hj⟩ := List.getElem?_of_mem hx
 exact ⟨_, c07 h j x hj⟩
theorem dA7 {s : Str} (h : by7 s = true) : s.size ≤ 7 := by
 simp only [by7, Bool.and_eq_true, decide_eq_true_eq] at h
 omega
theorem zA7 {m : List Bool} {k : Nat} (h : hl7 m k = true) : k < m.length := by
 unfold hl7 at h
 rcases Nat.lt_or_ge k m.length with h1 | h1
 ·exact h1
 ·rw [List.getElem?_eq_none h1] at h
  cases h
theorem vo7 {m : List Bool} {a : Nat} : ∀ {b : Nat}, a ≤ b → cnt m a ≤ cnt m b
 | 0, h => by
  have : a = 0 := by omega
  subst this; exact Nat.le_refl _
 | b + 1, h => by
  rcases Nat.eq_or_lt_of_le h with rfl | h
  ·exact Nat.le_refl _
  ·have := vo7 (m := m) (a := a) (b := b) (by omega)
   simp only [cnt]
   omega
theorem of7 {m : List Bool} : ∀ {l : List Commit} {k : Nat}, (gm7 m l k).length + cnt m k = cnt m (k + l.length)
 | [], k => by simp [gm7]
 | x :: l, k => by
  have ih := of7 (m := m) (l := l) (k := k + 1)
  simp only [cnt] at ih
  rw [List.length_cons, show k + (l.length + 1) = k + 1 + l.length by omega]
  simp only [gm7]
  split
  ·rename_i h
   rw [if_pos h] at ih
   simp only [List.length_cons]
   omega
  ·rename_i h
   rw [if_neg h] at ih
   omega
theorem og7 {m : List Bool} : ∀ {l : List Commit} {k j : Nat} {x : Commit}, l[j]? = some x → hl7 m (k + j) = true → (gm7 m l k)[cnt m (k + j) - cnt m k]? = some (Ck7 m x)
 | [], k, j, x, h, _ => by simp at h
 | y :: l, k, 0, x, h, ht => by
  simp only [List.getElem?_cons_zero, Option.some.injEq] at h
  subst h
  simp only [Nat.add_zero] at ht
  simp [gm7, ht]
 | y :: l, k, j + 1, x, h, ht => by
  rw [show k + (j + 1) = k + 1 + j by omega] at ht ⊢
  have ih := og7 (m := m) (l := l) (k := k + 1) (j := j) (by simpa using h) ht
  have hm := vo7 (m := m) (a := k + 1) (b := k + 1 + j) (by omega)
  simp only [cnt] at ih hm
  simp only [gm7]
  split
  ·rename_i hk
   rw [if_pos hk] at ih hm
   rw [show cnt m (k + 1 + j) - cnt m k = cnt m (k + 1 + j) - (cnt m k + 1) + 1 by omega, List.getElem?_cons_succ]
   exact ih
  ·rename_i hk
   rw [if_neg hk] at ih
   exact ih
theorem zB7 {m : List Bool} : ∀ {n j : Nat}, j < cnt m n → ∃ k, k < n ∧ hl7 m k = true ∧ cnt m k = j
 | 0, j, h => by simp [cnt] at h
 | n + 1, j, h => by
  by_cases hn : j < cnt m n
  ·obtain ⟨k, h1, h2, h3⟩ := zB7 hn
   exact ⟨k, by omega, h2, h3⟩
  ·simp only [cnt] at h
   split at h
   ·rename_i ht
    exact ⟨n, by omega, ht, by omega⟩
   ·omega
structure Kept (cs : List Commit) (m : List Bool) : Prop where
 hist : r67 cs
 len : m.length = cs.length
 up : ∀ k x u, cs[k]? = some x → hl7 m k = true → u ∈ x.up → hl7 m u.toNat = true
section
variable {cs : List Commit} {m : List Bool}
theorem Kept.get (h : Kept cs m) {k : Nat} (hk : hl7 m k = true) : ∃ x, cs[k]? = some x ∧ (gm7 m cs 0)[cnt m k]? = some (Ck7 m x) := by
 obtain ⟨x, hx⟩ := oa7 (xs := cs) (i := k) (by rw [← h.len]; exact zA7 hk)
 have := og7 (m := m) (l := cs) (k := 0) (j := k) hx (by simpa using hk)
 simp only [Nat.zero_add, cnt, Nat.sub_zero] at this
 exact ⟨x, hx, this⟩
theorem Kept.tot (h : Kept cs m) : (gm7 m cs 0).length = cnt m cs.length := by
 have := of7 (m := m) (l := cs) (k := 0)
 simp only [Nat.zero_add, cnt] at this
 exact this
theorem Kept.from (h : Kept cs m) {j : Nat} {y : Commit} (hy : (gm7 m cs 0)[j]? = some y) : ∃ k x, hl7 m k = true ∧ cnt m k = j ∧ cs[k]? = some x ∧ y = Ck7 m x := by
 have := jX7 hy
 rw [h.tot] at this
 obtain ⟨k, h1, h2, h3⟩ := zB7 this
 obtain ⟨x, h4, h5⟩ := h.get h2
 rw [h3, hy] at h5
 exact ⟨k, x, h2, h3, h4, Option.some.inj h5⟩
end
theorem jm7 {r : az7} {k : Nat} {x : Commit} (hw : a47 r ≤ 1048576) (hx : r.commits[k]? = some x) : wL aK7 x.sheet ≤ 1048576 := by
 have := bn7 (w := ar7) (List.mem_of_getElem? hx)
 have h3 : wL aK7 x.sheet ≤ ar7 x := by unfold ar7; omega
 unfold a47 at hw
 have h4 : wL ar7 r.commits = r.commits.length + a17 ar7 r.commits := rfl
 omega
structure Added (r : az7) (n t : Str) (s : List Feat) (i : Nat) (z : bg7) (x : Commit) (q : az7) (k : Nat) : Prop where
 repo : dh7 r = true
 sheet : a97 s = true
 word : by7 t = true
 hd : cY7 r.heads n = (i : Int)
 at_ : r.heads[i]? = some z
 name : z.name = n
 was : r.commits[z.at_.toNat]? = some x
 ge : 0 ≤ z.at_
 ne : x.sheet ≠ s
 eq : TL7 r n s t = (q, 0)
 heads : q.heads = r.heads.set i ⟨z.name, (k : Int)⟩
 comm : (q.commits = r.commits ∧ k < r.commits.length) ∨ (q.commits = r.commits ++ [⟨[z.at_], s, t⟩] ∧ k = r.commits.length ∧ r.commits.length < 14)
 get : q.commits[k]? = some ⟨[z.at_], s, t⟩
 repo' : dh7 q = true
section
variable {r q : az7} {n t : Str} {s : List Feat} {i k : Nat} {z : bg7} {x : Commit}
theorem Added.w (h : Added r n t s i z x q k) (hw : a47 r ≤ 1000000) (hs : wL aK7 s ≤ 20000) (ht : t.size ≤ 7) : a47 q ≤ a47 r + 20010 := by
 have h1 := Pb7 (r := r) (n := n) (t := t) (s := s)
 rw [h.eq] at h1
 simp only at h1
 omega
theorem Added.pre (h : Added r n t s i z x q k) : q.commits.take r.commits.length = r.commits := by
 rcases h.comm with ⟨h1, _⟩ | ⟨h1, _⟩ <;> rw [h1] <;> simp
end
theorem ps7 {cs : List Commit} (h : do7 cs = true) : ∀ (n a : Nat), a ≤ n → a < cs.length → Anc cs a 0
 | n, 0, _, _ => .refl 0
 | 0, a + 1, h1, _ => by omega
 | n + 1, a + 1, h1, h2 => by
  obtain ⟨c, hc⟩ := oa7 h2
  have hu := (jh7 h hc).1
  have hlt := (GZ7 hu).1
  simp only [mUp, Bool.and_eq_true, beq_iff_eq] at hu
  have h3 : decide (0 < c.up.length) = true := by rw [hu.2.2.1]; simp
  have h3 := of_decide_eq_true h3
  obtain ⟨u, hu0⟩ := oa7 h3
  have hm := List.mem_of_getElem? hu0
  have h4 := hlt u hm
  exact (Anc.up (.refl (a + 1)) hc hm).trans (ps7 h n u.toNat (by omega) (by omega))
theorem jZ7 {r : az7} (h : dh7 r = true) : do7 r.commits = true := by
 unfold dh7 at h
 simp only [Bool.and_eq_true] at h
 exact h.2.2.2.2.1
theorem oh7 {p : Nat → Bool} : ∀ {n k : Nat}, k < n → p k = true → ∃ m : Nat, (f17 p n).head? = some (m : Int) ∧ m < n ∧ p m = true ∧ ∀ j : Nat, m < j → j < n → p j = false
 | 0, k, h, _ => by omega
 | n + 1, k, h, hp => by
  simp only [f17]
  by_cases hn : p n = true
  ·rw [if_pos hn]
   exact ⟨n, rfl, by omega, hn, fun j h1 h2 => by omega⟩
  ·rw [if_neg hn]
   have hk : k < n := by
    rcases Nat.lt_or_ge k n with h1 | h1
    ·exact h1
    ·have : k = n := by omega
     subst this
     exact absurd hp hn
   obtain ⟨m, h1, h2, h3, h4⟩ := oh7 hk hp
   exact ⟨m, h1, by omega, h3, fun j h5 h6 => by
    rcases Nat.lt_or_ge j n with h7 | h7
    ·exact h4 j h5 h7
    ·have : j = n := by omega
     subst this
     simpa using hn⟩
theorem iE7 {r : az7} {a b : Int} (h : ¬ (inR r a && inR r b) = true) : cJ7 r a b = -1 := by
 unfold cJ7
 rw [if_neg h]
 rfl
theorem j07 {r : az7} {a b : Nat} (hr : dh7 r = true) (ha : a < r.commits.length) (hb : b < r.commits.length) : ∃ k : Nat, cJ7 r a b = (k : Int) ∧ k < r.commits.length ∧ Com r.commits a b k ∧ ∀ j, k < j → ¬ Com r.commits a b j := by
 have hc := eH7 hr
 have h1 : (inR r (a : Int) && inR r (b : Int)) = true := by unfold inR; rw [hr]; simp; omega
 have h0 : Com r.commits a b 0 := ⟨ps7 (jZ7 hr) _ a (Nat.le_refl _) ha, ps7 (jZ7 hr) _ b (Nat.le_refl _) hb⟩
 obtain ⟨i, hi, _⟩ := jj7 hc _ 0 (Nat.le_refl _) h0
 have hil : i < r.commits.length := by have := hi.1.1.le hc; omega
 obtain ⟨m, m1, m2, m3, m4⟩ := oh7 (p := fun k => @decide (mt7 r.commits a b k) (Classical.propDecidable _)) hil (by simpa using hi)
 refine ⟨m, ?_, m2, ?_, fun j hj hcm => ?_⟩
 ·unfold cJ7
  rw [if_pos h1]
  simp only [Int.toNat_natCast]
  unfold ob7
  rw [m1]
  rfl
 ·have : mt7 r.commits a b m := by simpa using m3
  exact this.1
 ·obtain ⟨e, he, he2⟩ := jj7 hc _ j (Nat.le_refl _) hcm
  have h5 := he2.le hc
  have h6 : e < r.commits.length := by have := he.1.1.le hc; omega
  have h7 := m4 e (by omega) h6
  simp at h7
  exact h7 he
def nF : Feat := ⟨⟨#[]⟩, ⟨0, []⟩, []⟩
theorem kF7 {α : Type} {p : α → Bool} : ∀ (l : List α) (k : Nat), (l.find? p = none ∧ bQ7 p l k = -1) ∨ ∃ j x, l.find? p = some x ∧ bQ7 p l k = ((k + j : Nat) : Int) ∧ l[j]? = some x ∧ p x = true
 | [], k => .inl ⟨rfl, rfl⟩
 | y :: l, k => by
  simp only [List.find?_cons, bQ7]
  cases hp : p y
  ·rcases kF7 (p := p) l (k + 1) with ⟨h1, h2⟩ | ⟨j, x, h1, h2, h3, h4⟩
   ·exact .inl ⟨h1, by simpa using h2⟩
   ·exact .inr ⟨j + 1, x, h1, by simp only [h2]; simp; omega, h3, h4⟩
  ·exact .inr ⟨0, y, rfl, by simp, rfl, hp⟩
def bE7 (s : List Feat) (id : Str) : Feat × Bool := match s.find? (fun f : Feat => decide (f.id = id)) with
 | some f => (f, true)
 | none => (nF, false)
theorem Cl7 {s : List Feat} {id : Str} (hl : s.length ≤ 1048576) : ro7 s id = some (bQ7 (fun f : Feat => decide (f.id = id)) s 0) := by
 unfold ro7 uZ7
 have h := oM7 (gl := fs7 id) (p := fun f : Feat => decide (f.id = id)) (ok := fun _ => True) (fun _ => rfl) (fun x l k _ => by simp only [fs7, uY7, bP7, Option.bind_some]) s 0 (fun _ _ => trivial)
 rw [if_pos (aa7 hl)]
 exact (congrArg (fun o => Option.bind o fun x2 => some x2) h)
theorem Cm7 {s : List Feat} {id : Str} (hl : s.length ≤ 1048576) : qT7 s id = some (bQ7 (fun f : Feat => decide (f.id = id)) s 0) := by
 unfold qT7
 have h := oM7 (gl := fd7 id) (p := fun f : Feat => decide (f.id = id)) (ok := fun _ => True) (fun _ => rfl) (fun x l k _ => by simp only [fd7, bP7]) s 0 (fun _ _ => trivial)
 rw [if_pos (aa7 hl)]
 exact h
theorem Pc7 {s : List Feat} {id : Str} (h : wL aK7 s ≤ 1048576) : rp7 s id = some (bE7 s id) := by
 have hl : s.length ≤ 1048576 := by unfold wL at h; omega
 unfold rp7 bE7
 rw [Cl7 hl, Option.bind_some]
 rcases kF7 (p := fun f : Feat => decide (f.id = id)) s 0 with ⟨h1, h2⟩ | ⟨j, x, h1, h2, h3, h4⟩
 ·rw [h1, h2]; rfl
 ·have hx := bn7 (w := aK7) (List.mem_of_getElem? h3)
  rw [h1, h2, if_neg (by simp), ah7, Nat.zero_add, h3, Option.bind_some, fM7 (by unfold wL at h; omega)]
  rfl
theorem pt7 {s : List Feat} {id : Str} (h : wL aK7 s ≤ 1048576) : lB7 s id = some (bE7 s id) := by
 have hl : s.length ≤ 1048576 := by unfold wL at h; omega
 unfold lB7 bE7
 rw [Cm7 hl, Option.bind_some]
 rcases kF7 (p := fun f : Feat => decide (f.id = id)) s 0 with ⟨h1, h2⟩ | ⟨j, x, h1, h2, h3, h4⟩
 ·rw [h1, h2]; rfl
 ·have hx := bn7 (w := aK7) (List.mem_of_getElem? h3)
  rw [h1, h2, if_neg (by simp), ah7, Nat.zero_add, h3, Option.bind_some, pp7 (by unfold wL at h; omega)]
  rfl
def m47 (s : List Feat) (id : Str) : List Feat := s.filter fun y => !decide (y.id = id)
def hL7 (f : Feat) : List Feat → List Feat
 | [] => [f]
 | x :: l => if slt x.id f.id = true then x :: hL7 f l else f :: m47 (x :: l) f.id
theorem vp7 {a b : Str} (h : slt a b = true) : a ≠ b := fun e => by
 rw [e, slt_sw.irrefl] at h
 cases h
theorem jn7 {x : Feat} {l : List Feat} {id : Str} : m47 (x :: l) id = if x.id = id then m47 l id else x :: m47 l id := by
 unfold m47
 rw [List.filter_cons]
 by_cases h : x.id = id <;> simp [h]
theorem kG7 {f : Feat} : ∀ (l : List Feat) (k : Nat) (v : List Feat), v.length + l.length ≤ 1048576 → cy7 f l k true v = some (true, v ++ m47 l f.id)
 | [], k, v, _ => by simp [cy7, m47]
 | x :: l, k, v, h => by
  simp only [List.length_cons] at h
  simp only [cy7, bP7, Bool.not_true, Bool.false_eq_true, if_false, Option.bind_some]
  rw [jn7]
  by_cases e : x.id = f.id
  ·rw [if_neg (by simp [e]), kG7 l (k + 1) v (by omega), if_pos e]
  ·rw [if_pos (by simp [e]), if_pos (aa7 (by simp; omega)), kG7 l (k + 1) _ (by simp; omega), if_neg e]
   simp
theorem vq7 {f : Feat} : ∀ (l : List Feat) (k : Nat) (v : List Feat), v.length + l.length + 1 ≤ 1048576 → ∃ d o, cy7 f l k false v = some (d, o) ∧ (if d = true then o else o ++ [f]) = v ++ hL7 f l
 | [], k, v, _ => ⟨false, v, rfl, by simp [hL7]⟩
 | x :: l, k, v, h => by
  simp only [List.length_cons] at h
  simp only [cy7, bP7, Bool.not_false, if_true, hL7]
  by_cases e : slt x.id f.id = true
  ·have hn := vp7 e
   obtain ⟨d, o, h1, h2⟩ := vq7 l (k + 1) (v ++ [x]) (by simp; omega)
   refine ⟨d, o, ?_, by rw [h2, if_pos e]; simp⟩
   rw [if_neg (by simp [e]), Option.bind_some]
   simp only
   rw [if_pos (by simp [hn]), if_pos (aa7 (by simp; omega)), h1]
  ·rw [if_pos (by simpa using e), if_pos (aa7 (by simp; omega)), Option.bind_some]
   simp only
   rw [if_neg e, jn7]
   by_cases e2 : x.id = f.id
   ·rw [if_neg (by simp [e2]), kG7 l (k + 1) _ (by simp; omega), if_pos e2]
    exact ⟨true, _, rfl, by simp⟩
   ·rw [if_pos (by simp [e2]), if_pos (aa7 (by simp; omega)), kG7 l (k + 1) _ (by simp; omega), if_neg e2]
    exact ⟨true, _, rfl, by simp⟩
theorem iF7 {f : Feat} : ∀ (l : List Feat), (hL7 f l).length ≤ l.length + 1
 | [] => by simp [hL7]
 | x :: l => by
  have := iF7 (f := f) l
  have h2 : (m47 (x :: l) f.id).length ≤ (x :: l).length := List.length_filter_le _ _
  unfold hL7
  split
  ·simp only [List.length_cons]; omega
  ·simp only [List.length_cons] at h2 ⊢; omega
theorem zC7 {s : List Feat} {f : Feat} (h : s.length + 1 ≤ 1048576) : nN7 s f = some (hL7 f s) := by
 obtain ⟨d, o, h1, h2⟩ := vq7 (f := f) s 0 [] (by simp; omega)
 have h3 := iF7 (f := f) s
 simp only [List.nil_append] at h2
 unfold nN7
 rw [if_pos (aa7 (by omega)), h1, Option.bind_some]
 cases d
 ·simp only [Bool.not_false, if_true]
  simp only [Bool.false_eq_true, if_false] at h2
  rw [if_pos (aa7 (by rw [h2]; omega)), h2]
 ·simp only [if_true] at h2
  simp [h2]
def Pw (v : List Feat) : Prop := v.Pairwise fun a b => slt a.id b.id = true
theorem vr7 {f : Feat} : ∀ {l : List Feat} {y : Feat}, y ∈ hL7 f l → y = f ∨ y ∈ l
 | [], y, h => by simpa [hL7] using h
 | x :: l, y, h => by
  unfold hL7 at h
  split at h
  ·rcases List.mem_cons.1 h with h | h
   ·exact .inr (by simp [h])
   ·rcases vr7 h with h | h
    ·exact .inl h
    ·exact .inr (by simp [h])
  ·rcases List.mem_cons.1 h with h | h
   ·exact .inl h
   ·exact .inr (List.mem_filter.1 h).1
theorem zD7 {f : Feat} : ∀ {l : List Feat}, Pw l → Pw (hL7 f l)
 | [], _ => by simp [hL7, Pw]
 | x :: l, h => by
  unfold Pw at h
  rw [List.pairwise_cons] at h
  unfold hL7
  by_cases e : slt x.id f.id = true
  ·rw [if_pos e]
   unfold Pw
   rw [List.pairwise_cons]
   refine ⟨fun y hy => ?_, zD7 h.2⟩
   rcases vr7 hy with rfl | hy
   ·exact e
   ·exact h.1 y hy
  ·rw [if_neg e]
   unfold Pw
   rw [List.pairwise_cons]
   refine ⟨fun y hy => ?_, List.Pairwise.filter _ (List.pairwise_cons.2 h)⟩
   obtain ⟨hy, hn⟩ := List.mem_filter.1 hy
   simp only [Bool.not_eq_true', decide_eq_false_iff_not] at hn
   have hf : slt x.id f.id = false := by simpa using e
   have hxy : slt y.id f.id = false := by
    rcases List.mem_cons.1 hy with rfl | hy
    ·exact hf
    ·cases h2 : slt y.id f.id
     ·rfl
     ·rw [slt_sw.trans _ _ _ (h.1 y hy) h2] at hf; cases hf
   cases h3 : slt f.id y.id
   ·exact absurd (oN7 hxy h3) hn
   ·rfl
theorem sf7 {f : Feat} : ∀ {l : List Feat}, (hL7 f l).Perm (f :: m47 l f.id)
 | [] => by simp [hL7, m47]
 | x :: l => by
  unfold hL7
  by_cases e : slt x.id f.id = true
  ·rw [if_pos e, jn7, if_neg (vp7 e)]
   exact (List.Perm.cons x sf7).trans (List.Perm.swap f x _)
  ·rw [if_neg e]
theorem zE7 {s : List Feat} (h : a97 s = true) : Pw s := by
 unfold a97 at h
 rw [Bool.and_eq_true] at h
 have key : ∀ k x y, s[k]? = some x → s[k + 1]? = some y → slt x.id y.id = true := by
  intro k x y hx hy
  have := c07 h.1 (k + 1) y hy
  simp only [Nat.zero_add, Bool.and_eq_true, Bool.or_eq_true, decide_eq_true_eq, j57, Nat.add_sub_cancel, hx] at this
  rcases this.2 with h | h
  ·omega
  ·exact h
 clear h
 induction s with
 | nil => exact List.Pairwise.nil
 | cons a s ih =>
  have ih := ih fun k x y hx hy => key (k + 1) x y hx hy
  unfold Pw
  rw [List.pairwise_cons]
  refine ⟨?_, ih⟩
  cases s with
  | nil => intro y hy; cases hy
  | cons b s =>
   have h1 := key 0 a b rfl rfl
   have ih2 := ih
   unfold Pw at ih2
   rw [List.pairwise_cons] at ih2
   intro y hy
   rcases List.mem_cons.1 hy with rfl | hy
   ·exact h1
   ·exact slt_sw.trans _ _ _ h1 (ih2.1 y hy)
theorem oi7 {s : List Feat} {id : Str} : aK7 (bE7 s id).1 ≤ wL aK7 s := by
 unfold bE7
 split
 ·rename_i f hf
  have := bn7 (w := aK7) (List.mem_of_find?_eq_some hf)
  unfold wL
  simp only
  omega
 ·exact Nat.zero_le _
theorem mf7 {f : Feat} (h : bK7 f = true) : aK7 f ≤ 100 := by
 unfold bK7 dS7 s47 at h
 simp only [Bool.and_eq_true, decide_eq_true_eq] at h
 obtain ⟨h1, ⟨h2, h3, h4⟩, h5, h6⟩ := h
 have a1 := dA7 h1
 have a2 : a17 kB7 f.tags ≤ 14 * f.tags.length := zz7 fun t ht => by
  obtain ⟨j, hj⟩ := TM7 h5 ht
  simp only [Bool.and_eq_true] at hj
  have b1 := dA7 hj.1
  have b2 := dA7 hj.2.1
  unfold kB7
  omega
 have a3 := qw7 f.shape.pts
 unfold aK7 df7 wL
 omega
def SPw (v : List Str) : Prop := v.Pairwise fun a b => slt a b = true
theorem sg7 {v : List Str} (h : SPw v) : v.Nodup := List.Pairwise.imp (fun h => vp7 h) h
theorem zF7 {a b : List Str} (ha : SPw a) (hb : SPw b) (h : ∀ x, x ∈ a ↔ x ∈ b) : a = b := by
 have hp : a.Perm b := (List.perm_ext_iff_of_nodup (sg7 ha) (sg7 hb)).2 h
 refine List.Perm.eq_of_pairwise (le := fun a b => slt a b = true) (fun x y _ _ g1 g2 => ?_) ha hb hp
 have := slt_sw.trans _ _ _ g1 g2
 rw [slt_sw.irrefl] at this
 cases this
theorem sh7 (a b c : Str) : leS a b = true → leS b c = true → leS a c = true := by
 unfold leS
 simp only [Bool.not_eq_true']
 exact fun h1 h2 => slt_sw.ntrans _ _ _ h2 h1
theorem si7 (a b : Str) : (leS a b || leS b a) = true := by
 unfold leS
 cases h : slt b a
 ·rfl
 ·cases h2 : slt a b
  ·rfl
  ·have := slt_sw.trans _ _ _ h h2
   rw [slt_sw.irrefl] at this
   cases this
theorem zG7 {a b : Str} (h : leS a b = true) (hn : a ≠ b) : slt a b = true := by
 unfold leS at h
 cases h2 : slt a b
 ·exact absurd (oN7 h2 (by simpa using h)) hn
 ·rfl
theorem Dy7 {a b c : Str} (h : leS a b = true) (h2 : slt b c = true) : slt a c = true := by
 by_cases e : a = b
 ·rw [e]; exact h2
 ·exact slt_sw.trans _ _ _ (zG7 h e) h2
theorem vs7 {xs : List Str} {y : Str} : y ∈ Go.Lib.compact xs ↔ y ∈ xs := by
 unfold Go.Lib.compact Go.Lib.compactUpTo
 rw [List.mem_map]
 constructor
 ·rintro ⟨j, hj, rfl⟩
  rw [List.mem_filter, List.mem_range] at hj
  rw [getElem!_pos _ j (by simpa using hj.1)]
  simp
 ·intro h
  obtain ⟨j, hj⟩ := List.mem_iff_getElem?.1 h
  induction j using Nat.strongRecOn with
  | _ j ih =>
   have hl := (List.getElem?_eq_some_iff.1 hj).1
   have he := (List.getElem?_eq_some_iff.1 hj).2
   by_cases hk : j = 0 ∨ xs.toArray[j]! ≠ xs.toArray[j - 1]!
   ·refine ⟨j, ?_, ?_⟩
    ·rw [List.mem_filter, List.mem_range]
     exact ⟨hl, by unfold Go.Lib.keeps; exact decide_eq_true hk⟩
    ·rw [getElem!_pos _ j (by simpa using hl)]
     simpa using he
   ·have h0 : j ≠ 0 := fun e => hk (.inl e)
    have h1 : xs.toArray[j]! = xs.toArray[j - 1]! := Classical.not_not.1 fun e => hk (.inr e)
    rw [getElem!_pos _ j (by simpa using hl), getElem!_pos _ (j - 1) (by simp; omega)] at h1
    simp only [List.getElem_toArray] at h1
    refine ih (j - 1) (by omega) ?_
    rw [List.getElem?_eq_getElem (by omega), ← h1, he]
theorem zH7 {xs : List Str} (h : xs.Pairwise fun a b => leS a b = true) : SPw (Go.Lib.compact xs) := by
 unfold Go.Lib.compact Go.Lib.compactUpTo SPw
 rw [List.pairwise_map, List.pairwise_filter]
 have hr := List.pairwise_lt_range (n := xs.length)
 refine List.Pairwise.imp_of_mem (fun {i j} hi hj hij _ hk => ?_) hr
 rw [List.mem_range] at hi hj
 rw [List.pairwise_iff_getElem] at h
 unfold Go.Lib.keeps at hk
 have hk := of_decide_eq_true hk
 rw [getElem!_pos _ i (by simpa using hi), getElem!_pos _ j (by simpa using hj)]
 rw [getElem!_pos _ j (by simpa using hj), getElem!_pos _ (j - 1) (by simp; omega)] at hk
 simp only [List.getElem_toArray] at hk ⊢
 have hne : xs[j] ≠ xs[j - 1] := by
  rcases hk with hk | hk
  ·omega
  ·exact hk
 have h1 : slt xs[j - 1] xs[j] = true := zG7 (h (j - 1) j (by omega) hj (by omega)) (Ne.symm hne)
 by_cases e : i = j - 1
 ·subst e; exact h1
 ·exact Dy7 (h i (j - 1) hi (by omega) (by omega)) h1
def HE7 (a b : List Feat) : List Str := (b.foldl (fun v x => hL7 x v) a).map (·.id)
theorem zI7 {f : Feat} : ∀ {l : List Feat} {i : Str}, i ∈ (hL7 f l).map (·.id) ↔ i = f.id ∨ i ∈ l.map (·.id) := by
 intro l i
 have hp := (sf7 (f := f) (l := l)).map (·.id)
 rw [hp.mem_iff, List.map_cons, List.mem_cons]
 constructor
 ·rintro (h | h)
  ·exact .inl h
  ·obtain ⟨y, hy, e⟩ := List.mem_map.1 h
   exact .inr (List.mem_map.2 ⟨y, (List.mem_filter.1 hy).1, e⟩)
 ·rintro (h | h)
  ·exact .inl h
  ·by_cases e : i = f.id
   ·exact .inl e
   ·obtain ⟨y, hy, e2⟩ := List.mem_map.1 h
    refine .inr (List.mem_map.2 ⟨y, List.mem_filter.2 ⟨hy, ?_⟩, e2⟩)
    have : ¬ y.id = f.id := fun e3 => e (by rw [← e2, e3])
    simp [this]
theorem pu7 : ∀ {b a : List Feat} {i : Str}, i ∈ (b.foldl (fun v x => hL7 x v) a).map (·.id) ↔ i ∈ a.map (·.id) ∨ i ∈ b.map (·.id)
 | [], a, i => by simp
 | x :: b, a, i => by
  rw [List.foldl_cons, pu7, zI7, List.map_cons, List.mem_cons]
  constructor
  ·rintro ((h | h) | h)
   ·exact .inr (.inl h)
   ·exact .inl h
   ·exact .inr (.inr h)
  ·rintro (h | h | h)
   ·exact .inl (.inr h)
   ·exact .inl (.inl h)
   ·exact .inr h
theorem tw7 : ∀ {b a : List Feat}, Pw a → Pw (b.foldl (fun v x => hL7 x v) a)
 | [], a, h => h
 | x :: b, a, h => tw7 (b := b) (zD7 h)
theorem Hh7 {a b : List Feat} (h : Pw a) : SPw (HE7 a b) := by
 unfold HE7 SPw
 rw [List.pairwise_map]
 exact tw7 h
theorem Cn7 {a b : List Feat} (ha : a.length + b.length ≤ 1000) : qS7 a b = some (HE7 a b) := by
 have k1 : ∀ (l : List Feat) (k : Nat) (v : List Feat), v.length + l.length ≤ 1000 → fc7 l k v = some (l.foldl (fun v x => hL7 x v) v) ∧ (l.foldl (fun v x => hL7 x v) v).length ≤ v.length + l.length := by
  intro l
  induction l with
  | nil => intro k v _; exact ⟨rfl, by simp⟩
  | cons x l ih =>
   intro k v h
   simp only [List.length_cons] at h
   have hp := iF7 (f := x) v
   obtain ⟨h1, h2⟩ := ih (k + 1) (hL7 x v) (by omega)
   exact ⟨by simp only [fc7, zC7 (s := v) (f := x) (by omega), Option.bind_some, h1, List.foldl_cons], by simp only [List.length_cons, List.foldl_cons]; omega⟩
 have k2 : ∀ (l : List Feat) (k : Nat) (v : List Str), v.length + l.length ≤ 1000 → d07 l k v = some (v ++ l.map (·.id)) := by
  intro l
  induction l with
  | nil => intro k v _; simp [d07]
  | cons x l ih =>
   intro k v h
   simp only [List.length_cons] at h
   simp only [d07]
   rw [if_pos (aa7 (by simp; omega)), ih _ _ (by simp; omega)]
   simp
 obtain ⟨h1, h2⟩ := k1 b 0 a (by omega)
 unfold qS7
 rw [if_pos (aa7 (by omega)), h1, Option.bind_some, if_pos (aa7 (by omega)), k2 _ 0 [] (by simp; omega)]
 rfl
def pv7 (a b : List Pt) : Int := (ba7 a b 0).headD 0
theorem tx7 (a b : List Pt) (i : Nat) : ba7 (a.drop i) b 0 = ba7 a b i := by
 unfold ba7
 rw [List.drop_zero]
theorem sj7 (x : Pt) : ∀ (b : List Pt) (ls : List Int) (j : Nat), j ≤ b.length → (mI7 x b ls).drop j = mI7 x (b.drop j) (ls.drop j)
 | b, ls, 0, h => by simp
 | [], ls, j + 1, h => by simp at h
 | y :: b, ls, j + 1, h => by
  have h : j ≤ b.length := by simpa using h
  simp only [mI7, List.drop_succ_cons]
  rw [sj7 x b ls.tail j h]
  congr 1
  cases ls <;> simp
theorem sk7 (b : List Pt) (j : Nat) (hj : j ≤ b.length) : ∀ a : List Pt, (ba7 a b 0).drop j = ba7 a (b.drop j) 0
 | [] => by
  rw [show ba7 [] b 0 = List.replicate (b.length + 1) 0 from rfl, show ba7 [] (b.drop j) 0 = List.replicate ((b.drop j).length + 1) 0 from rfl, List.drop_replicate, List.length_drop]
  congr 1
  omega
 | x :: a => by
  have ih := sk7 b j hj a
  have e : ∀ c, ba7 (x :: a) c 0 = mI7 x c (ba7 a c 0) := fun c => rfl
  rw [e, e, sj7 x b _ j hj, ih]
theorem ty7 {a b : List Pt} {i j : Nat} (hj : j ≤ b.length) : (ba7 a b i)[j]? = some (pv7 (a.drop i) (b.drop j)) := by
 have e : (ba7 a b i)[j]? = ((ba7 a b i).drop j)[0]? := by simp
 rw [e, ← tx7, sk7 b j hj]
 unfold pv7
 have h : (ba7 (a.drop i) (b.drop j) 0).length = (b.drop j).length + 1 := eE7 _ _ (Nat.zero_le _)
 cases hc : ba7 (a.drop i) (b.drop j) 0 with
 | nil => rw [hc] at h; simp at h
 | cons v l => rfl
theorem vt7 {a b : List Pt} {i : Nat} (hi : i ≤ a.length) : (wN7 a b)[i]? = some (ba7 a b i) := by
 rw [ls7, List.getElem?_map, List.getElem?_range (by omega)]
 rfl
theorem wr1 {z : Int} (h0 : -100000 ≤ z) (h1 : z ≤ 100000) : IntKind.i64.wrap z = z := bB7 (by omega) (by omega)
theorem Hi7 {a b : Int} : qU7 a b = some (max a b) := by
 unfold qU7
 by_cases h : a > b
 ·rw [if_pos (decide_eq_true h)]
  congr 1
  omega
 ·rw [if_neg (by simpa using h)]
  congr 1
  omega
theorem vu7 {L : List Int} {j : Nat} {v : Int} (h : L[j]? = some v) : (List.replicate (j + 1) 0 ++ L.drop (j + 1)).set j v = List.replicate j 0 ++ L.drop j := by
 obtain ⟨h1, h2⟩ := List.getElem?_eq_some_iff.1 h
 rw [List.drop_eq_getElem_cons h1, h2, List.replicate_succ', List.append_assoc, List.set_append_right _ _ (by simp)]
 simp
theorem Pd7 {a b : List Pt} {i : Nat} (hi : i < a.length) (ha : a.length ≤ 1000) (hb : b.length ≤ 1000) : ∀ (q N : Nat), q < N → q ≤ b.length → dq7 a (i : Int) b (ba7 a b (i + 1)) N ((q : Int) - 1) (List.replicate q 0 ++ (ba7 a b i).drop q) = some (ba7 a b i)
 | 0, N + 1, h, hq => by
  simp only [dq7]
  rw [if_neg (by simp)]
  simp
 | j + 1, N + 1, h, hq => by
  have hx := List.getElem?_eq_getElem hi
  have hy := List.getElem?_eq_getElem (show j < b.length by omega)
  have hst := eD7 (b := b) hx
  have hget := oO7 a[i] b (ba7 a b (i + 1)) j _ hy
  rw [← hst] at hget
  have hLi := eE7 a b (show i ≤ a.length by omega)
  have hLj := eE7 a b (show i + 1 ≤ a.length by omega)
  have hv1 := List.getElem?_eq_getElem (show j + 1 < (ba7 a b (i + 1)).length by omega)
  have hv0 := List.getElem?_eq_getElem (show j < (ba7 a b (i + 1)).length by omega)
  have hv2 := List.getElem?_eq_getElem (show j + 1 < (ba7 a b i).length by omega)
  have hb1 := s77 a b _ (i + 1) (by omega) rfl _ _ hv1
  have e0 : ((j + 1 : Nat) : Int) - 1 = (j : Int) := by omega
  have e1 : IntKind.i64.wrap ((j : Int) + 1) = ((j + 1 : Nat) : Int) := by rw [wr1 (by omega) (by omega)]; omega
  have e2 : IntKind.i64.wrap ((j : Int) - 1) = (j : Int) - 1 := wr1 (by omega) (by omega)
  have hu : (List.replicate (j + 1) 0 ++ (ba7 a b i).drop (j + 1))[j]? = some 0 := by
   rw [List.getElem?_append_left (by simp), List.getElem?_replicate, if_pos (by omega)]
  have hu2 : (List.replicate (j + 1) 0 ++ (ba7 a b i).drop (j + 1))[j + 1]? = some (ba7 a b i)[j + 1] := by
   rw [List.getElem?_append_right (by simp)]
   simp
  rw [hv1, hv0, hv2] at hget
  simp only [Option.getD_some] at hget
  simp only [dq7]
  rw [e0, if_pos (decide_eq_true (by omega)), ah7, hx, Option.bind_some, ah7, hy, Option.bind_some, e1, e2]
  have ih := Pd7 hi ha hb j N (by omega) (by omega)
  split
  ·rename_i hp
   rw [if_pos hp] at hget
   rw [ah7, hv1, Option.bind_some, ah7, hu, Option.bind_some, wr1 (by omega) (by omega), Int.toNat_natCast, vu7 hget]
   exact ih
  ·rename_i hp
   rw [if_neg hp] at hget
   rw [ah7, hv0, Option.bind_some, ah7, hu2, Option.bind_some, Hi7, Option.bind_some, ah7, hu, Option.bind_some, Int.toNat_natCast, vu7 hget]
   exact ih
theorem Pe7 {a b : List Pt} (ha : a.length ≤ 1000) (hb : b.length ≤ 1000) : ∀ (m N : Nat), m < N → m ≤ a.length → d17 b a N ((m : Int) - 1) (ba7 a b m) = some (ba7 a b 0)
 | 0, N + 1, h, hm => by
  simp only [d17]
  rw [if_neg (by simp)]
 | i + 1, N + 1, h, hm => by
  have e0 : ((i + 1 : Nat) : Int) - 1 = (i : Int) := by omega
  have e1 : IntKind.i64.wrap ((b.length : Int) + 1) = ((b.length + 1 : Nat) : Int) := by rw [wr1 (by omega) (by omega)]; omega
  have e2 : IntKind.i64.wrap ((b.length : Int) - 1) = (b.length : Int) - 1 := wr1 (by omega) (by omega)
  have e3 : IntKind.i64.wrap ((i : Int) - 1) = (i : Int) - 1 := wr1 (by omega) (by omega)
  have hl := nI7 a b (show i ≤ a.length by omega)
  obtain ⟨h1, h2⟩ := List.getElem?_eq_some_iff.1 hl
  have hLi := eE7 a b (show i ≤ a.length by omega)
  have e4 : List.replicate (b.length + 1) (0 : Int) = List.replicate b.length 0 ++ (ba7 a b i).drop b.length := by
   rw [List.drop_eq_getElem_cons h1, h2, List.drop_eq_nil_of_le (by omega), List.replicate_succ']
  have h5 := Pd7 (show i < a.length by omega) ha hb b.length aQ7 (by unfold aQ7; omega) (Nat.le_refl _)
  simp only [d17]
  rw [e0, if_pos (decide_eq_true (by omega)), e1, e2, Int.toNat_natCast, if_pos (by rw [aa7 (by omega), Bool.and_true]; exact decide_eq_true (by omega)), e4, h5, Option.bind_some, e3]
  exact Pe7 ha hb i N (by omega) (by omega)
theorem vv7 {a b : List Pt} (ha : a.length ≤ 1000) (hb : b.length ≤ 1000) : nO7 a b = some (pv7 a b) := by
 have e1 : IntKind.i64.wrap ((b.length : Int) + 1) = ((b.length + 1 : Nat) : Int) := by rw [wr1 (by omega) (by omega)]; omega
 have e2 : IntKind.i64.wrap ((a.length : Int) - 1) = (a.length : Int) - 1 := wr1 (by omega) (by omega)
 unfold nO7
 have h4 := Pe7 ha hb a.length aQ7 (by unfold aQ7; omega) (Nat.le_refl _)
 rw [gh7] at h4
 have h0 := ty7 (a := a) (b := b) (i := 0) (Nat.zero_le b.length)
 rw [e1, e2, Int.toNat_natCast, if_pos (by rw [aa7 (by omega), Bool.and_true]; exact decide_eq_true (by omega)), h4, Option.bind_some, show idx (ba7 a b 0) 0 = (ba7 a b 0)[0]? from ah7 (k := 0), h0]
 rfl
def prs (a b : List Pt) : Nat → Nat → Nat → List cv7
 | 0, _, _ => []
 | n + 1, i, k => match a[i]?, b[k]? with
  | some x, some y => if x = y then ⟨(i : Int), (k : Int)⟩ :: prs a b n (i + 1) (k + 1) else if pv7 (a.drop i) (b.drop (k + 1)) ≤ pv7 (a.drop (i + 1)) (b.drop k) then prs a b n (i + 1) k else prs a b n i (k + 1)
  | _, _ => []
def gn7 (a b : List Pt) : List cv7 := prs a b (a.length + b.length) 0 0
theorem pw7 {a b : List Pt} {n i k : Nat} (h : a.length ≤ i ∨ b.length ≤ k) : prs a b n i k = [] := by
 cases n with
 | zero => rfl
 | succ n =>
  rcases h with h | h
  ·simp only [prs, List.getElem?_eq_none h]
  ·simp only [prs, List.getElem?_eq_none h]
   cases a[i]? <;> rfl
theorem Co7 {a b : List Pt} (ha : a.length ≤ 12) (hb : b.length ≤ 12) : ∀ (n N i k : Nat) (acc : List cv7), n < N → a.length + b.length ≤ n + i + k → i ≤ a.length → k ≤ b.length → acc.length ≤ i → ds7 a b (wN7 a b) N (i : Int) (k : Int) acc = some (acc ++ prs a b n i k)
 | n, N + 1, i, k, acc, hN, hn, hi, hk, hacc => by
  simp only [ds7]
  by_cases h1 : i < a.length
  case neg =>
   rw [if_neg (by simp; omega), pw7 (.inl (by omega)), List.append_nil]
  by_cases h2 : k < b.length
  case neg =>
   rw [if_pos (decide_eq_true (by omega)), if_neg (by simp; omega), pw7 (.inr (by omega)), List.append_nil]
  have hx := List.getElem?_eq_getElem h1
  have hy := List.getElem?_eq_getElem h2
  have e1 : IntKind.i64.wrap ((i : Int) + 1) = ((i + 1 : Nat) : Int) := by rw [wr1 (by omega) (by omega)]; omega
  have e2 : IntKind.i64.wrap ((k : Int) + 1) = ((k + 1 : Nat) : Int) := by rw [wr1 (by omega) (by omega)]; omega
  obtain ⟨n, rfl⟩ : ∃ m, n = m + 1 := ⟨n - 1, by omega⟩
  rw [if_pos (decide_eq_true (by omega)), if_pos (decide_eq_true (by omega)), ah7, hx, Option.bind_some, ah7, hy, Option.bind_some, ptb, e1, e2]
  simp only [prs, hx, hy]
  by_cases he : a[i] = b[k]
  ·rw [if_pos (decide_eq_true he), if_pos he, if_pos (aa7 (by simp; omega)), Co7 ha hb n N (i + 1) (k + 1) _ (by omega) (by omega) (by omega) (by omega) (by simp; omega)]
   simp
  ·rw [if_neg (by simp [he]), if_neg he, ah7, vt7 (by omega), Option.bind_some, ah7, ty7 (by omega), Option.bind_some, ah7, vt7 (by omega), Option.bind_some, ah7, ty7 (by omega), Option.bind_some]
   by_cases hg : pv7 (a.drop i) (b.drop (k + 1)) ≤ pv7 (a.drop (i + 1)) (b.drop k)
   ·rw [if_pos (decide_eq_true hg), if_pos hg]
    exact Co7 ha hb n N (i + 1) k acc (by omega) (by omega) (by omega) (by omega) (by omega)
   ·rw [if_neg (by simpa using hg), if_neg hg]
    exact Co7 ha hb n N i (k + 1) acc (by omega) (by omega) (by omega) (by omega) (by omega)
theorem go7 {α : Type} {xs : List α} {i : Nat} (h : i ≤ xs.length) : slc xs (i : Int) (xs.length : Int) = some (xs.drop i) := by
 unfold slc
 rw [if_pos ⟨by omega, by omega, by omega⟩]
 simp
theorem j17 {α : Type} {xs : List α} {i j : Nat} (h : i ≤ j) (hj : j ≤ xs.length) : slc xs (i : Int) (j : Int) = some ((xs.take j).drop i) := by
 unfold slc
 rw [if_pos ⟨by omega, by omega, by omega⟩]
 simp
theorem Hj7 {a b : List Pt} : qV7 a b = some (decide (a.length ≤ 12) && decide (b.length ≤ 12)) := by
 unfold qV7
 rw [show decide ((a.length : Int) ≤ 12) = decide (a.length ≤ 12) from E07, show decide ((b.length : Int) ≤ 12) = decide (b.length ≤ 12) from E07]
 by_cases h : a.length ≤ 12 <;> simp [h]
theorem Cp7 {a b : List Pt} (ha : a.length ≤ 12) (hb : b.length ≤ 12) : ∀ (n N i k : Nat) (acc : List cv7), n < N → a.length + b.length ≤ n + i + k → i ≤ a.length → k ≤ b.length → acc.length ≤ i → dr7 a b N (i : Int) (k : Int) acc = some (acc ++ prs a b n i k)
 | n, N + 1, i, k, acc, hN, hn, hi, hk, hacc => by
  simp only [dr7]
  by_cases h1 : i < a.length
  case neg =>
   rw [if_neg (by simp; omega), pw7 (.inl (by omega)), List.append_nil]
  by_cases h2 : k < b.length
  case neg =>
   rw [if_pos (decide_eq_true (by omega)), if_neg (by simp; omega), pw7 (.inr (by omega)), List.append_nil]
  have hx := List.getElem?_eq_getElem h1
  have hy := List.getElem?_eq_getElem h2
  have e1 : IntKind.i64.wrap ((i : Int) + 1) = ((i + 1 : Nat) : Int) := by rw [wr1 (by omega) (by omega)]; omega
  have e2 : IntKind.i64.wrap ((k : Int) + 1) = ((k + 1 : Nat) : Int) := by rw [wr1 (by omega) (by omega)]; omega
  obtain ⟨n, rfl⟩ : ∃ m, n = m + 1 := ⟨n - 1, by omega⟩
  rw [if_pos (decide_eq_true (by omega)), if_pos (decide_eq_true (by omega)), Hj7, Option.bind_some, if_pos (by simp [ha, hb]), ah7, hx, Option.bind_some, ah7, hy, Option.bind_some, ptb, e1, e2]
  simp only [prs, hx, hy]
  by_cases he : a[i] = b[k]
  ·rw [if_pos (decide_eq_true he), if_pos he, if_pos (aa7 (by simp; omega)), Cp7 ha hb n N (i + 1) (k + 1) _ (by omega) (by omega) (by omega) (by omega) (by simp; omega)]
   simp
  ·have d1 : ∀ i, (a.drop i).length ≤ 1000 := fun i => by rw [List.length_drop]; omega
   have d2 : ∀ i, (b.drop i).length ≤ 1000 := fun i => by rw [List.length_drop]; omega
   rw [if_neg (by simp [he]), if_neg he, go7 (by omega), Option.bind_some, go7 (by omega), Option.bind_some, vv7 (d1 _) (d2 _), Option.bind_some, go7 (by omega), Option.bind_some, go7 (by omega), Option.bind_some, vv7 (d1 _) (d2 _), Option.bind_some]
   by_cases hg : pv7 (a.drop i) (b.drop (k + 1)) ≤ pv7 (a.drop (i + 1)) (b.drop k)
   ·rw [if_pos (decide_eq_true hg), if_pos hg]
    exact Cp7 ha hb n N (i + 1) k acc (by omega) (by omega) (by omega) (by omega) (by omega)
   ·rw [if_neg (by simpa using hg), if_neg hg]
    exact Cp7 ha hb n N i (k + 1) acc (by omega) (by omega) (by omega) (by omega) (by omega)
theorem oj7 {a b : List Pt} (ha : a.length ≤ 12) (hb : b.length ≤ 12) : nZ7 a b = some (gn7 a b) := by
 unfold nZ7 Do7
 rw [if_neg (by simp; omega), if_neg (by simp; omega)]
 have h : wg7 a b = some (wN7 a b) := by
  unfold wg7
  rw [if_pos (by simp; omega)]
 have h2 := Co7 ha hb (a.length + b.length) aQ7 0 0 [] (by unfold aQ7; omega) (by omega) (by omega) (by omega) (by simp)
 rw [h, Option.bind_some]
 exact congrArg (fun o => Option.bind o fun q => some q) h2
theorem ok7 {a b : List Pt} (ha : a.length ≤ 12) (hb : b.length ≤ 12) : nP7 a b = some (gn7 a b) := by
 unfold nP7
 have h2 := Cp7 ha hb (a.length + b.length) aQ7 0 0 [] (by unfold aQ7; omega) (by omega) (by omega) (by omega) (by simp)
 exact congrArg (fun o => Option.bind o fun q => some q) h2
def prt (p : List cv7) (i : Nat) : Option Nat := (p.find? fun q => decide (q.a = (i : Int))).map fun q => q.b.toNat
def pick (o a b : List Pt) : Option (List Pt) := if a = o then some b else if b = o then some a else if a = b then some a else none
def mu7 (l : List Pt) (i j : Nat) : List Pt := (l.take j).drop i
def mg (o a b : List Pt) (pa pb : List cv7) : Nat → Nat → Nat → Nat → Nat → List Pt → Option (List Pt)
 | 0, at_, i, j, k, out => (pick (mu7 o i at_) (a.drop j) (b.drop k)).map fun p => out ++ p
 | n + 1, at_, i, j, k, out => match prt pa at_, prt pb at_ with
  | some x, some y => (pick (mu7 o i at_) (mu7 a j x) (mu7 b k y)).bind fun p => mg o a b pa pb n (at_ + 1) (at_ + 1) (x + 1) (y + 1) (out ++ p ++ (o[at_]?).toList)
  | _, _ => mg o a b pa pb n (at_ + 1) i j k out
def j27 (o a b : List Pt) : Option (List Pt) := mg o a b (gn7 o a) (gn7 o b) o.length 0 0 0 0 []
theorem sl7 {a b : List Pt} : ∀ (n i k : Nat) (q : cv7), q ∈ prs a b n i k → ∃ u v : Nat, q = ⟨(u : Int), (v : Int)⟩ ∧ i ≤ u ∧ u < a.length ∧ k ≤ v ∧ v < b.length
 | 0, i, k, q, h => by simp [prs] at h
 | n + 1, i, k, q, h => by
  simp only [prs] at h
  split at h
  ·rename_i x y hx hy
   have h1 := (List.getElem?_eq_some_iff.1 hx).1
   have h2 := (List.getElem?_eq_some_iff.1 hy).1
   split at h
   ·rcases List.mem_cons.1 h with rfl | h
    ·exact ⟨i, k, rfl, Nat.le_refl _, h1, Nat.le_refl _, h2⟩
    ·obtain ⟨u, v, e, g1, g2, g3, g4⟩ := sl7 n _ _ q h
     exact ⟨u, v, e, by omega, g2, by omega, g4⟩
   ·split at h
    ·obtain ⟨u, v, e, g1, g2, g3, g4⟩ := sl7 n _ _ q h
     exact ⟨u, v, e, by omega, g2, by omega, g4⟩
    ·obtain ⟨u, v, e, g1, g2, g3, g4⟩ := sl7 n _ _ q h
     exact ⟨u, v, e, by omega, g2, by omega, g4⟩
  ·simp at h
def UpP (p : List cv7) : Prop := p.Pairwise fun q r => q.a < r.a ∧ q.b < r.b
theorem zJ7 {a b : List Pt} : ∀ (n i k : Nat), UpP (prs a b n i k)
 | 0, i, k => .nil
 | n + 1, i, k => by
  simp only [prs]
  split
  ·split
   ·refine List.Pairwise.cons (fun q hq => ?_) (zJ7 n _ _)
    obtain ⟨u, v, rfl, g1, g2, g3, g4⟩ := sl7 n _ _ q hq
    simp only
    omega
   ·split <;> exact zJ7 n _ _
  ·exact .nil
structure OkP (p : List cv7) (n : Nat) : Prop where
 up : UpP p
 rg : ∀ q, q ∈ p → 0 ≤ q.a ∧ 0 ≤ q.b ∧ q.b < n
theorem cs7 (a b : List Pt) : OkP (gn7 a b) b.length := ⟨zJ7 _ _ _, fun q hq => by
 obtain ⟨u, v, rfl, g1, g2, g3, g4⟩ := sl7 _ _ _ q hq
 simp only
 omega⟩
theorem gZ7 {a b : List Pt} (ha : a.length ≤ 12) : (gn7 a b).length ≤ 12 := by
 have : ∀ n i k, i ≤ a.length → (prs a b n i k).length ≤ a.length - i := by
  intro n
  induction n with
  | zero => intro i k h; simp [prs]
  | succ n ih =>
   intro i k h
   simp only [prs]
   split
   ·rename_i x y hx hy
    have h1 := (List.getElem?_eq_some_iff.1 hx).1
    split
    ·have := ih (i + 1) (k + 1) (by omega)
     simp only [List.length_cons]
     omega
    ·split
     ·have := ih (i + 1) k (by omega)
      omega
     ·exact ih i (k + 1) h
   ·simp
 have := this (a.length + b.length) 0 0 (Nat.zero_le _)
 unfold gn7
 omega
theorem zK7 : ∀ {p : List cv7} {q r : cv7}, UpP p → q ∈ p → r ∈ p → q.a < r.a → q.b < r.b
 | [], q, r, h, hq, hr, e => by simp at hq
 | x :: p, q, r, h, hq, hr, e => by
  obtain ⟨h1, h2⟩ := List.pairwise_cons.1 h
  rcases List.mem_cons.1 hq with hq1 | hq1 <;> rcases List.mem_cons.1 hr with hr1 | hr1
  ·rw [hq1, hr1] at e; omega
  ·rw [hq1]; exact (h1 r hr1).2
  ·rw [hr1] at e; have := (h1 q hq1).1; omega
  ·exact zK7 h2 hq1 hr1 e
theorem g07 {p : List cv7} {n i v : Nat} (h : OkP p n) (hv : prt p i = some v) : v < n ∧ ∃ q, q ∈ p ∧ q.a = (i : Int) ∧ q.b = (v : Int) := by
 unfold prt at hv
 cases hf : p.find? fun q => decide (q.a = (i : Int)) with
 | none => rw [hf] at hv; cases hv
 | some q =>
  rw [hf] at hv
  simp only [Option.map_some, Option.some.injEq] at hv
  have hm := List.mem_of_find?_eq_some hf
  have ha : q.a = (i : Int) := by simpa using List.find?_some hf
  have hr := h.rg q hm
  exact ⟨by omega, q, hm, ha, by omega⟩
def Bh (p : List cv7) (at_ j : Nat) : Prop := ∀ q, q ∈ p → (at_ : Int) ≤ q.a → (j : Int) ≤ q.b
theorem Bh.skip {p : List cv7} {at_ j : Nat} (h : Bh p at_ j) : Bh p (at_ + 1) j := fun q hq h2 => h q hq (by omega)
theorem Bh.hit {p : List cv7} {n at_ v : Nat} (h : OkP p n) (hv : prt p at_ = some v) : Bh p (at_ + 1) (v + 1) := fun q hq h2 => by
 obtain ⟨_, r, hr, e1, e2⟩ := g07 h hv
 have := zK7 h.up hr hq (by omega)
 omega
theorem Bh.le {p : List cv7} {n at_ j v : Nat} (hb : Bh p at_ j) (h : OkP p n) (hv : prt p at_ = some v) : j ≤ v := by
 obtain ⟨_, r, hr, e1, e2⟩ := g07 h hv
 have := hb r hr (by omega)
 omega
def Cq7 (p : List cv7) (i : Nat) : Int := match prt p i with
 | some v => (v : Int)
 | none => -1
theorem sm7 {x : cv7} {l : List cv7} {i : Nat} (hx : 0 ≤ x.b) : Cq7 (x :: l) i = if (x.a == (i : Int)) = true then x.b else Cq7 l i := by
 unfold Cq7 prt
 by_cases e : x.a = (i : Int)
 ·rw [List.find?_cons_of_pos (by simpa using e), if_pos (by simpa using e)]
  simp only [Option.map_some]
  omega
 ·rw [List.find?_cons_of_neg (by simpa using e), if_neg (by simpa using e)]
theorem sn7 {p : List cv7} {i n : Nat} (h : OkP p n) (hl : p.length ≤ 1048576) : n07 p (i : Int) = some (Cq7 p i) := by
 unfold n07
 rw [if_pos (aa7 hl)]
 have key : ∀ (l : List cv7) (k : Nat), (∀ q, q ∈ l → 0 ≤ q.b) → ((ft7 (i : Int) l k).bind fun q => match q with | .inl r => some r | .inr q11 => some (-1)) = some (Cq7 l i) := by
  intro l
  induction l with
  | nil => intro k _; rfl
  | cons x l ih =>
   intro k hq
   simp only [ft7]
   rw [sm7 (hq x (by simp))]
   by_cases e : (x.a == (i : Int)) = true
   ·rw [if_pos e, if_pos e]; rfl
   ·rw [if_neg e, if_neg e]
    exact ih (k + 1) fun q h => hq q (by simp [h])
 exact key p 0 fun q hq => (h.rg q hq).2.1
theorem Dz7 {p : List cv7} {i n : Nat} (h : OkP p n) (hl : p.length ≤ 1048576) : nQ7 p (i : Int) = some (Cq7 p i) := by
 unfold nQ7
 rw [if_pos (aa7 hl)]
 have key : ∀ (l : List cv7) (k : Nat), (∀ q, q ∈ l → 0 ≤ q.b) → ((fe7 (i : Int) l k).bind fun q => match q with | .inl r => some r | .inr q8 => some (-1)) = some (Cq7 l i) := by
  intro l
  induction l with
  | nil => intro k _; rfl
  | cons x l ih =>
   intro k hq
   simp only [fe7]
   rw [sm7 (hq x (by simp))]
   by_cases e : (x.a == (i : Int)) = true
   ·rw [if_pos e, if_pos e]; rfl
   ·rw [if_neg e, if_neg e]
    exact ih (k + 1) fun q h => hq q (by simp [h])
 exact key p 0 fun q hq => (h.rg q hq).2.1
def Cr7 (o a b : List Pt) : List Pt × Bool := match pick o a b with
 | some p => (p, true)
 | none => ([], false)
theorem vw7 {o a b : List Pt} (ha : a.length ≤ 1048576) (hb : b.length ≤ 1048576) : nR7 o a b = some (Cr7 o a b) := by
 unfold nR7 Cr7 pick
 rw [kE7 ha, Option.bind_some]
 by_cases h1 : a = o
 ·rw [if_pos (decide_eq_true h1), if_pos h1]
 ·rw [if_neg (by simp [h1]), if_neg h1, kE7 hb, Option.bind_some]
  by_cases h2 : b = o
  ·rw [if_pos (decide_eq_true h2), if_pos h2]
  ·rw [if_neg (by simp [h2]), if_neg h2, kE7 ha, Option.bind_some]
   by_cases h3 : a = b
   ·rw [if_pos (decide_eq_true h3), if_pos h3]
   ·rw [if_neg (by simp [h3]), if_neg h3]
theorem DA7 {o a b out : List Pt} (ha : a.length ≤ 12) (hb : b.length ≤ 12) (ho : out.length ≤ 1000) : ((eF7 a o).bind fun x778 => if x778 = true then (if aE7 (out ++ b).length = true then some (.inr (out ++ b)) else none) else ((eF7 b o).bind fun x783 => if x783 = true then (if aE7 (out ++ a).length = true then some (.inr (out ++ a)) else none) else ((eF7 a b).bind fun x785 => if x785 = true then (if aE7 (out ++ a).length = true then some (.inr (out ++ a)) else none) else (some (.inl (([] : (List Pt)), false))))) : Option (((List Pt) × Bool) ⊕ (List Pt))) =
  some (match pick o a b with | some p => .inr (out ++ p) | none => .inl ([], false)) := by
 unfold pick
 rw [vg7 (by omega), Option.bind_some]
 by_cases h1 : a = o
 ·rw [if_pos (decide_eq_true h1), if_pos h1, if_pos (aa7 (by simp; omega))]
 ·rw [if_neg (by simp [h1]), if_neg h1, vg7 (by omega), Option.bind_some]
  by_cases h2 : b = o
  ·rw [if_pos (decide_eq_true h2), if_pos h2, if_pos (aa7 (by simp; omega))]
  ·rw [if_neg (by simp [h2]), if_neg h2, vg7 (by omega), Option.bind_some]
   by_cases h3 : a = b
   ·rw [if_pos (decide_eq_true h3), if_pos h3, if_pos (aa7 (by simp; omega))]
   ·rw [if_neg (by simp [h3]), if_neg h3]
def mgR (r : Option (List Pt)) : (List Pt × Bool) ⊕ List Pt := match r with
 | some p => .inr p
 | none => .inl ([], false)
theorem c97 {l : List Pt} {i j : Nat} (h : l.length ≤ 12) : (mu7 l i j).length ≤ 12 := by
 unfold mu7
 rw [List.length_drop, List.length_take]
 omega
theorem iG7 {o a b p : List Pt} (ha : a.length ≤ 12) (hb : b.length ≤ 12) (h : pick o a b = some p) : p.length ≤ 12 := by
 unfold pick at h
 split at h
 ·cases h; exact hb
 ·split at h
  ·cases h; exact ha
  ·split at h
   ·cases h; exact ha
   ·cases h
section
variable {o a b : List Pt} {pa pb : List cv7}
theorem PB7 (ho : o.length ≤ 12) (ha : a.length ≤ 12) (hb : b.length ≤ 12) (hpa : OkP pa a.length) (hpb : OkP pb b.length) (la : pa.length ≤ 12) (lb : pb.length ≤ 12) : ∀ (n N at_ i j k : Nat) (out : List Pt), n + 1 < N → n + at_ = o.length → i ≤ at_ → j ≤ a.length → k ≤ b.length → Bh pa at_ j → Bh pb at_ k → out.length ≤ 13 * at_ →
  ee7 o pa pb a b N (i : Int) (j : Int) (k : Int) (at_ : Int) out = some (mgR (mg o a b pa pb n at_ i j k out))
 | 0, N + 2, at_, i, j, k, out, hN, hn, hi, hj, hk, ba, bb, hout => by
  simp only [ee7]
  rw [if_pos (decide_eq_true (by omega)), if_neg (by simp; omega), j17 hi (by omega), Option.bind_some, go7 hj, Option.bind_some, go7 hk, Option.bind_some, DA7 (by rw [List.length_drop]; omega) (by rw [List.length_drop]; omega) (by omega), Option.bind_some]
  simp only [mg]
  unfold mu7
  cases hp : pick ((o.take at_).drop i) (a.drop j) (b.drop k) with
  | none => rfl
  | some p =>
   simp only
   rw [if_neg (by simp; omega)]
   simp only [Option.bind_some]
   rw [show IntKind.i64.wrap ((at_ : Int) + 1) = ((at_ + 1 : Nat) : Int) by rw [wr1 (by omega) (by omega)]; omega, if_neg (by simp; omega)]
   rfl
 | n + 1, N + 1, at_, i, j, k, out, hN, hn, hi, hj, hk, ba, bb, hout => by
  have ew : IntKind.i64.wrap ((at_ : Int) + 1) = ((at_ + 1 : Nat) : Int) := by rw [wr1 (by omega) (by omega)]; omega
  simp only [ee7]
  rw [if_pos (decide_eq_true (by omega)), if_pos (decide_eq_true (by omega)), sn7 hpa (by omega), Option.bind_some, sn7 hpb (by omega), Option.bind_some]
  simp only [mg]
  unfold Cq7
  cases hx : prt pa at_ with
  | none =>
   simp only
   rw [if_pos (by decide)]
   simp only [Option.bind_some, ew]
   exact PB7 ho ha hb hpa hpb la lb n N _ _ _ _ _ (by omega) (by omega) (by omega) hj hk ba.skip bb.skip (by omega)
  | some x =>
   cases hy : prt pb at_ with
   | none =>
    simp only
    rw [if_neg (by simp), if_pos (by decide)]
    simp only [Option.bind_some, ew]
    exact PB7 ho ha hb hpa hpb la lb n N _ _ _ _ _ (by omega) (by omega) (by omega) hj hk ba.skip bb.skip (by omega)
   | some y =>
    have x1 := (g07 hpa hx).1
    have y1 := (g07 hpb hy).1
    have x2 := ba.le hpa hx
    have y2 := bb.le hpb hy
    have ho1 := List.getElem?_eq_getElem (show at_ < o.length by omega)
    simp only
    rw [if_neg (by simp), if_neg (by simp), j17 hi (by omega), Option.bind_some, j17 x2 (by omega), Option.bind_some, j17 y2 (by omega), Option.bind_some, DA7 (o := (o.take at_).drop i) (a := (a.take x).drop j) (b := (b.take y).drop k) (c97 ha) (c97 hb) (by omega), Option.bind_some]
    show _ = some (mgR ((pick (mu7 o i at_) (mu7 a j x) (mu7 b k y)).bind _))
    unfold mu7
    cases hp : pick ((o.take at_).drop i) ((a.take x).drop j) ((b.take y).drop k) with
    | none => rfl
    | some p =>
     have hpl := iG7 (c97 (i := j) (j := x) ha) (c97 (i := k) (j := y) hb) hp
     simp only
     rw [if_pos (decide_eq_true (by omega)), ah7, ho1, Option.bind_some, if_pos (aa7 (by simp; omega))]
     simp only [Option.bind_some, ew, ho1, Option.toList_some]
     rw [show IntKind.i64.wrap ((x : Int) + 1) = ((x + 1 : Nat) : Int) by rw [wr1 (by omega) (by omega)]; omega, show IntKind.i64.wrap ((y : Int) + 1) = ((y + 1 : Nat) : Int) by rw [wr1 (by omega) (by omega)]; omega]
     exact PB7 ho ha hb hpa hpb la lb n N _ _ _ _ _ (by omega) (by omega) (by omega) (by omega) (by omega) (Bh.hit hpa hx) (Bh.hit hpb hy) (by simp; omega)
theorem PC7 (ho : o.length ≤ 12) (ha : a.length ≤ 12) (hb : b.length ≤ 12) (hpa : OkP pa a.length) (hpb : OkP pb b.length) (la : pa.length ≤ 12) (lb : pb.length ≤ 12) : ∀ (n N at_ i j k : Nat) (out : List Pt), n + 1 < N → n + at_ = o.length → i ≤ at_ → j ≤ a.length → k ≤ b.length → Bh pa at_ j → Bh pb at_ k → out.length ≤ 13 * at_ →
  d27 o pa pb a b N (i : Int) (j : Int) (k : Int) (at_ : Int) out = some (mgR (mg o a b pa pb n at_ i j k out))
 | 0, N + 2, at_, i, j, k, out, hN, hn, hi, hj, hk, ba, bb, hout => by
  simp only [d27]
  rw [if_pos (decide_eq_true (by omega)), if_neg (by simp; omega), j17 hi (by omega), Option.bind_some, go7 hj, Option.bind_some, go7 hk, Option.bind_some, vw7 (by rw [List.length_drop]; omega) (by rw [List.length_drop]; omega), Option.bind_some]
  simp only [mg]
  unfold mu7 Cr7
  cases hp : pick ((o.take at_).drop i) (a.drop j) (b.drop k) with
  | none => rfl
  | some p =>
   have hpl := iG7 (by rw [List.length_drop]; omega) (by rw [List.length_drop]; omega) hp
   simp only
   rw [if_neg (by decide), if_pos (aa7 (by simp; omega)), if_neg (by simp; omega)]
   simp only [Option.bind_some]
   rw [show IntKind.i64.wrap ((at_ : Int) + 1) = ((at_ + 1 : Nat) : Int) by rw [wr1 (by omega) (by omega)]; omega, if_neg (by simp; omega)]
   rfl
 | n + 1, N + 1, at_, i, j, k, out, hN, hn, hi, hj, hk, ba, bb, hout => by
  have ew : IntKind.i64.wrap ((at_ : Int) + 1) = ((at_ + 1 : Nat) : Int) := by rw [wr1 (by omega) (by omega)]; omega
  simp only [d27]
  rw [if_pos (decide_eq_true (by omega)), if_pos (decide_eq_true (by omega)), Dz7 hpa (by omega), Option.bind_some, Dz7 hpb (by omega), Option.bind_some]
  simp only [mg]
  unfold Cq7
  cases hx : prt pa at_ with
  | none =>
   simp only
   rw [if_pos (by decide)]
   simp only [Option.bind_some, ew]
   exact PC7 ho ha hb hpa hpb la lb n N _ _ _ _ _ (by omega) (by omega) (by omega) hj hk ba.skip bb.skip (by omega)
  | some x =>
   cases hy : prt pb at_ with
   | none =>
    simp only
    rw [if_neg (by simp), if_pos (by decide)]
    simp only [Option.bind_some, ew]
    exact PC7 ho ha hb hpa hpb la lb n N _ _ _ _ _ (by omega) (by omega) (by omega) hj hk ba.skip bb.skip (by omega)
   | some y =>
    have x1 := (g07 hpa hx).1
    have y1 := (g07 hpb hy).1
    have x2 := ba.le hpa hx
    have y2 := bb.le hpb hy
    have ho1 := List.getElem?_eq_getElem (show at_ < o.length by omega)
    simp only
    rw [if_neg (by simp), if_neg (by simp), j17 hi (by omega), Option.bind_some, j17 x2 (by omega), Option.bind_some, j17 y2 (by omega), Option.bind_some, vw7 (o := (o.take at_).drop i) (a := (a.take x).drop j) (b := (b.take y).drop k) (by have := c97 (i := j) (j := x) ha; unfold mu7 at this; omega) (by have := c97 (i := k) (j := y) hb; unfold mu7 at this; omega), Option.bind_some]
    show _ = some (mgR ((pick (mu7 o i at_) (mu7 a j x) (mu7 b k y)).bind _))
    unfold mu7 Cr7
    cases hp : pick ((o.take at_).drop i) ((a.take x).drop j) ((b.take y).drop k) with
    | none => rfl
    | some p =>
     have hpl := iG7 (c97 (i := j) (j := x) ha) (c97 (i := k) (j := y) hb) hp
     simp only
     rw [if_neg (by decide), if_pos (aa7 (by simp; omega)), if_pos (decide_eq_true (by omega)), ah7, ho1, Option.bind_some, if_pos (aa7 (by simp; omega))]
     simp only [Option.bind_some, ew, ho1, Option.toList_some]
     rw [show IntKind.i64.wrap ((x : Int) + 1) = ((x + 1 : Nat) : Int) by rw [wr1 (by omega) (by omega)]; omega, show IntKind.i64.wrap ((y : Int) + 1) = ((y + 1 : Nat) : Int) by rw [wr1 (by omega) (by omega)]; omega]
     exact PC7 ho ha hb hpa hpb la lb n N _ _ _ _ _ (by omega) (by omega) (by omega) (by omega) (by omega) (Bh.hit hpa hx) (Bh.hit hpb hy) (by simp; omega)
end
def jo7 (o a b : List Pt) : List Pt × Bool := match j27 o a b with
 | some p => (p, true)
 | none => ([], false)
theorem wF7 {o a b : List Pt} (ho : o.length ≤ 12) (ha : a.length ≤ 12) (hb : b.length ≤ 12) : n17 o a b = some (jo7 o a b) := by
 unfold n17 jo7 j27
 have h := PB7 ho ha hb (cs7 o a) (cs7 o b) (gZ7 ho) (gZ7 ho) o.length aQ7 0 0 0 0 [] (by unfold aQ7; omega) (by omega) (by omega) (by omega) (by omega) (fun q hq _ => (cs7 o a).rg q hq |>.2.1) (fun q hq _ => (cs7 o b).rg q hq |>.2.1) (by simp)
 rw [if_neg (by simp; omega), if_neg (by simp; omega), if_neg (by simp; omega), oj7 ho ha, Option.bind_some, oj7 ho hb, Option.bind_some]
 refine (congrArg (fun z => Option.bind z _) h).trans ?_
 cases mg o a b (gn7 o a) (gn7 o b) o.length 0 0 0 0 [] <;> rfl
theorem zL7 {o a b : List Pt} (ho : o.length ≤ 12) (ha : a.length ≤ 12) (hb : b.length ≤ 12) : qW7 o a b = some (jo7 o a b) := by
 unfold qW7 jo7 j27
 have h := PC7 ho ha hb (cs7 o a) (cs7 o b) (gZ7 ho) (gZ7 ho) o.length aQ7 0 0 0 0 [] (by unfold aQ7; omega) (by omega) (by omega) (by omega) (by omega) (fun q hq _ => (cs7 o a).rg q hq |>.2.1) (fun q hq _ => (cs7 o b).rg q hq |>.2.1) (by simp)
 rw [ok7 ho ha, Option.bind_some, ok7 ho hb, Option.bind_some]
 refine (congrArg (fun z => Option.bind z _) h).trans ?_
 cases mg o a b (gn7 o a) (gn7 o b) o.length 0 0 0 0 [] <;> rfl
def cO7 (ts : List Tag) (k : Str) : Val := match ts.find? (fun t : Tag => decide (t.key = k)) with
 | some t => ⟨true, t.val⟩
 | none => ⟨false, ⟨#[]⟩⟩
theorem zM7 {ts : List Tag} {k : Str} (h : (cO7 ts k).has = false) : (cO7 ts k).val = ⟨#[]⟩ := by
 unfold cO7 at h ⊢
 split at h
 ·cases h
 ·rfl
theorem mg7 {f : Feat} {k : Str} (hl : f.tags.length ≤ 1048576) : lH7 f k = some (cO7 f.tags k) := by
 have h1 : rq7 f k = some (bQ7 (fun t : Tag => decide (t.key = k)) f.tags 0) := by
  unfold rq7 u17
  have h := oM7 (gl := fu7 k) (p := fun t : Tag => decide (t.key = k)) (ok := fun _ => True) (fun _ => rfl) (fun x l j _ => by simp only [fu7, u07, Option.bind_some, bP7]) f.tags 0 (fun _ _ => trivial)
  rw [if_pos (aa7 hl)]
  exact (congrArg (fun o => Option.bind o fun x3 => some x3) h)
 unfold lH7 cO7
 rw [h1, Option.bind_some]
 rcases kF7 (p := fun t : Tag => decide (t.key = k)) f.tags 0 with ⟨h1, h2⟩ | ⟨j, x, h1, h2, h3, h4⟩
 ·rw [h1, h2]; rfl
 ·rw [h1, h2, if_neg (by simp), ah7, Nat.zero_add, h3, Option.bind_some]
theorem tz7 {ts : List Tag} {k : Str} (hl : ts.length ≤ 1048576) : lA7 ts k = some ((cO7 ts k).val, (cO7 ts k).has) := by
 have key : ∀ (l : List Tag) (j : Nat), ((ff7 k l j).bind fun q => match q with | .inl r => some r | .inr q8 => some ((⟨#[]⟩ : Str), false)) = some ((cO7 l k).val, (cO7 l k).has) := by
  intro l
  induction l with
  | nil => intro j; rfl
  | cons x l ih =>
   intro j
   simp only [ff7, bP7]
   by_cases e : x.key = k
   ·rw [if_pos (decide_eq_true e)]
    unfold cO7
    rw [List.find?_cons_of_pos (by simpa using e)]
    rfl
   ·rw [if_neg (by simp [e])]
    have e2 : cO7 (x :: l) k = cO7 l k := by
     unfold cO7
     rw [List.find?_cons_of_neg (by simpa using e)]
    rw [e2]
    exact ih (j + 1)
 unfold lA7
 rw [if_pos (aa7 hl)]
 exact key ts 0
def bz7 {α : Type} [DecidableEq α] (o a b : α) : α × Bool := if a = o then (b, true) else if b = o then (a, true) else if a = b then (a, true) else (a, false)
theorem UT7 (x y : Val) : ((x.has == y.has) && ((x.val == y.val) && true)) = decide (x = y) := by
 obtain ⟨a, b⟩ := x; obtain ⟨c, d⟩ := y
 simp only [QN7]
 by_cases h1 : a = c <;> by_cases h2 : b = d <;> simp [h1, h2]
theorem Cs7 {o a b : Val} : ru7 o a b = some (bz7 o a b) := by
 unfold ru7 n27 bz7
 simp only [Option.bind_some, UT7]
 by_cases h1 : a = o <;> by_cases h2 : b = o <;> by_cases h3 : a = b <;> simp [h1, h2, h3]
def zN7 (o a b : Val) : Val × Bool := if (bz7 o a b).2 = true then bz7 o a b else (if a.has = true then a else b, false)
theorem Hk7 {o a b : List Tag} {k : Str} (ho : o.length ≤ 1048576) (ha : a.length ≤ 1048576) (hb : b.length ≤ 1048576) : q07 o a b k = some ((zN7 (cO7 o k) (cO7 a k) (cO7 b k)).1.val, (zN7 (cO7 o k) (cO7 a k) (cO7 b k)).1.has, (zN7 (cO7 o k) (cO7 a k) (cO7 b k)).2) := by
 unfold q07
 rw [tz7 ho, Option.bind_some, tz7 ha, Option.bind_some, tz7 hb, Option.bind_some]
 have na := zM7 (ts := a) (k := k)
 have nb := zM7 (ts := b) (k := k)
 generalize cO7 o k = vo at *
 generalize cO7 a k = va at *
 generalize cO7 b k = vb at *
 obtain ⟨oh, ov⟩ := vo; obtain ⟨ah, av⟩ := va; obtain ⟨bh, bv⟩ := vb
 simp only [bP7] at *
 unfold zN7 bz7
 simp only [Val.mk.injEq]
 by_cases h1 : av = ov
 ·subst h1
  by_cases h2 : bv = av
  ·subst h2
   cases oh <;> cases ah <;> cases bh <;> simp_all
  ·cases oh <;> cases ah <;> cases bh <;> simp_all [eq_comm]
 ·by_cases h2 : bv = ov
  ·subst h2
   cases oh <;> cases ah <;> cases bh <;> simp_all [eq_comm]
  ·by_cases h3 : av = bv
   ·subst h3
    cases oh <;> cases ah <;> cases bh <;> simp_all [eq_comm]
   ·cases oh <;> cases ah <;> cases bh <;> simp_all [eq_comm]
def mh7 (s : List Tag) (k : Str) : List Tag := s.filter fun y => !decide (y.key = k)
def hH7 (f : Tag) : List Tag → List Tag
 | [] => [f]
 | x :: l => if slt x.key f.key = true then x :: hH7 f l else f :: mh7 (x :: l) f.key
theorem ol7 {x : Tag} {l : List Tag} {k : Str} : mh7 (x :: l) k = if x.key = k then mh7 l k else x :: mh7 l k := by
 unfold mh7
 rw [List.filter_cons]
 by_cases h : x.key = k <;> simp [h]
theorem iH7 {f : Tag} : ∀ (l : List Tag) (k : Nat) (v : List Tag), v.length + l.length ≤ 1048576 → cz7 f.key f.val l k true v = some (true, v ++ mh7 l f.key)
 | [], k, v, _ => by simp [cz7, mh7]
 | x :: l, k, v, h => by
  simp only [List.length_cons] at h
  simp only [cz7, bP7, Bool.not_true, Bool.false_eq_true, if_false, Option.bind_some]
  rw [ol7]
  by_cases e : x.key = f.key
  ·rw [if_neg (by simp [e]), iH7 l (k + 1) v (by omega), if_pos e]
  ·rw [if_pos (by simp [e]), if_pos (aa7 (by simp; omega)), iH7 l (k + 1) _ (by simp; omega), if_neg e]
   simp
theorem so7 {f : Tag} : ∀ (l : List Tag) (k : Nat) (v : List Tag), v.length + l.length + 1 ≤ 1048576 → ∃ d o, cz7 f.key f.val l k false v = some (d, o) ∧ (if d = true then o else o ++ [f]) = v ++ hH7 f l
 | [], k, v, _ => ⟨false, v, rfl, by simp [hH7]⟩
 | x :: l, k, v, h => by
  simp only [List.length_cons] at h
  simp only [cz7, bP7, Bool.not_false, if_true, hH7]
  by_cases e : slt x.key f.key = true
  ·have hn := vp7 e
   obtain ⟨d, o, h1, h2⟩ := so7 l (k + 1) (v ++ [x]) (by simp; omega)
   refine ⟨d, o, ?_, by rw [h2, if_pos e]; simp⟩
   rw [if_neg (by simp [e]), Option.bind_some]
   simp only
   rw [if_pos (by simp [hn]), if_pos (aa7 (by simp; omega)), h1]
  ·rw [if_pos (by simpa using e), if_pos (aa7 (by simp; omega)), Option.bind_some]
   simp only
   rw [if_neg e, ol7]
   by_cases e2 : x.key = f.key
   ·rw [if_neg (by simp [e2]), iH7 l (k + 1) _ (by simp; omega), if_pos e2]
    exact ⟨true, _, rfl, by simp⟩
   ·rw [if_pos (by simp [e2]), if_pos (aa7 (by simp; omega)), iH7 l (k + 1) _ (by simp; omega), if_neg e2]
    exact ⟨true, _, rfl, by simp⟩
theorem mi7 {f : Tag} : ∀ (l : List Tag), (hH7 f l).length ≤ l.length + 1
 | [] => by simp [hH7]
 | x :: l => by
  have := mi7 (f := f) l
  have h2 : (mh7 (x :: l) f.key).length ≤ (x :: l).length := List.length_filter_le _ _
  unfold hH7
  split
  ·simp only [List.length_cons]; omega
  ·simp only [List.length_cons] at h2 ⊢; omega
theorem Hl7 {s : List Tag} {f : Tag} (h : s.length + 1 ≤ 1048576) : qX7 s f.key f.val = some (hH7 f s) := by
 obtain ⟨d, o, h1, h2⟩ := so7 (f := f) s 0 [] (by simp; omega)
 have h3 := mi7 (f := f) s
 simp only [List.nil_append] at h2
 unfold qX7
 rw [if_pos (aa7 (by omega)), h1, Option.bind_some]
 cases d
 ·simp only [Bool.not_false, if_true]
  simp only [Bool.false_eq_true, if_false] at h2
  rw [if_pos (aa7 (by rw [h2]; omega)), h2]
 ·simp only [if_true] at h2
  simp [h2]
theorem mj7 {f : Tag} : ∀ {l : List Tag} {k : Str}, k ∈ (hH7 f l).map (·.key) ↔ k = f.key ∨ k ∈ l.map (·.key)
 | [], k => by simp [hH7]
 | x :: l, k => by
  unfold hH7
  split
  ·rw [List.map_cons, List.mem_cons, mj7, List.map_cons, List.mem_cons]
   constructor
   ·rintro (h | h | h)
    ·exact .inr (.inl h)
    ·exact .inl h
    ·exact .inr (.inr h)
   ·rintro (h | h | h)
    ·exact .inr (.inl h)
    ·exact .inl h
    ·exact .inr (.inr h)
  ·rw [List.map_cons, List.mem_cons]
   have e : k ∈ (mh7 (x :: l) f.key).map (·.key) ↔ k ≠ f.key ∧ k ∈ (x :: l).map (·.key) := by
    simp only [mh7, List.mem_map, List.mem_filter, Bool.not_eq_true', decide_eq_false_iff_not]
    constructor
    ·rintro ⟨y, ⟨h1, h2⟩, rfl⟩
     exact ⟨h2, y, h1, rfl⟩
    ·rintro ⟨h2, y, h1, rfl⟩
     exact ⟨y, ⟨h1, h2⟩, rfl⟩
   rw [e]
   by_cases h : k = f.key
   ·simp [h]
   ·simp [h]
theorem Ct7 {s : List Tag} {k : Str} : (mh7 s k).Sublist s := List.filter_sublist
theorem vx7 {f : Tag} : ∀ {l : List Tag}, SPw (l.map (·.key)) → SPw ((hH7 f l).map (·.key))
 | [], _ => by simp [hH7, SPw]
 | x :: l, h => by
  have h0 := h
  unfold SPw at h
  rw [List.map_cons, List.pairwise_cons] at h
  obtain ⟨h1, h2⟩ := h
  unfold hH7
  split
  ·rename_i e
   unfold SPw
   rw [List.map_cons, List.pairwise_cons]
   refine ⟨fun k hk => ?_, vx7 h2⟩
   rcases mj7.1 hk with rfl | hk
   ·exact e
   ·exact h1 k hk
  ·rename_i e
   unfold SPw
   rw [List.map_cons, List.pairwise_cons]
   refine ⟨fun k hk => ?_, List.Pairwise.sublist ((Ct7 (s := x :: l)).map _) h0⟩
   obtain ⟨y, hy, rfl⟩ := List.mem_map.1 hk
   have hy2 := List.mem_filter.1 hy
   have hne : y.key ≠ f.key := by simpa using hy2.2
   have hfx : leS f.key x.key = true := by unfold leS; simpa using e
   rcases List.mem_cons.1 hy2.1 with rfl | hy3
   ·exact zG7 hfx (fun e => hne e.symm)
   ·exact Dy7 hfx (h1 _ (List.mem_map_of_mem hy3))
def g77 (o a b : List Tag) : List Str := Go.Lib.compact (((o ++ a ++ b).map (·.key)).mergeSort leS)
theorem Cu7 {o a b : List Tag} : SPw (g77 o a b) := zH7 (List.pairwise_mergeSort sh7 si7 _)
theorem sp7 {o a b : List Tag} {k : Str} : k ∈ g77 o a b ↔ k ∈ o.map (·.key) ∨ k ∈ a.map (·.key) ∨ k ∈ b.map (·.key) := by
 unfold g77
 rw [vs7, (List.mergeSort_perm _ leS).mem_iff, List.map_append, List.map_append, List.mem_append, List.mem_append, or_assoc]
theorem Cv7 {o a b : List Tag} (h : o.length + a.length + b.length ≤ 1000) : qZ7 o a b = some (g77 o a b) := by
 have k1 : ∀ (l : List Tag) (k : Nat) (v : List Tag), v.length + l.length ≤ 1000 → SPw (v.map (·.key)) → ∃ r, fg7 l k v = some r ∧ SPw (r.map (·.key)) ∧ r.length ≤ v.length + l.length ∧ ∀ x, x ∈ r.map (·.key) ↔ x ∈ v.map (·.key) ∨ x ∈ l.map (·.key) := by
  intro l
  induction l with
  | nil => intro k v _ hv; exact ⟨v, rfl, hv, by simp, by simp⟩
  | cons t l ih =>
   intro k v h hv
   simp only [List.length_cons] at h
   have hp := mi7 (f := ⟨t.key, ⟨#[97]⟩⟩) v
   obtain ⟨r, h1, h2, h3, h4⟩ := ih (k + 1) (hH7 ⟨t.key, ⟨#[97]⟩⟩ v) (by omega) (vx7 hv)
   refine ⟨r, ?_, h2, by simp only [List.length_cons]; omega, fun x => ?_⟩
   ·simp only [fg7]
    rw [Hl7 (s := v) (f := ⟨t.key, ⟨#[97]⟩⟩) (by omega), Option.bind_some, h1]
   ·rw [h4, mj7, List.map_cons, List.mem_cons]
    constructor
    ·rintro ((h | h) | h)
     ·exact .inr (.inl h)
     ·exact .inl h
     ·exact .inr (.inr h)
    ·rintro (h | h | h)
     ·exact .inl (.inr h)
     ·exact .inl (.inl h)
     ·exact .inr h
 have k2 : ∀ (l : List Tag) (k : Nat) (v : List Str), v.length + l.length ≤ 1000 → d37 l k v = some (v ++ l.map (·.key)) := by
  intro l
  induction l with
  | nil => intro k v _; simp [d37]
  | cons x l ih =>
   intro k v h
   simp only [List.length_cons] at h
   simp only [d37]
   rw [if_pos (aa7 (by simp; omega)), ih _ _ (by simp; omega)]
   simp
 obtain ⟨r, h1, h2, h3, h4⟩ := k1 (o ++ a ++ b) 0 [] (by simp; omega) (by simp [SPw])
 unfold qZ7
 simp only [List.nil_append]
 simp only [List.length_append, List.length_nil] at h3
 rw [if_pos (aa7 (by omega)), if_pos (aa7 (by simp; omega)), if_pos (aa7 (by simp; omega)), if_pos (aa7 (by simp; omega)), h1, Option.bind_some, if_pos (aa7 (by omega)), k2 r 0 [] (by simp; omega), Option.bind_some]
 congr 1
 refine zF7 (by simpa using h2) Cu7 fun x => ?_
 rw [sp7, List.nil_append, h4]
 simp [or_assoc]
def tagW : Str := ⟨#[116, 97, 103, 32]⟩
def mT (o a b : Feat) (k : Str) : Val × Bool := zN7 (cO7 o.tags k) (cO7 a.tags k) (cO7 b.tags k)
def wOf (o a b : Feat) (k : Str) : List Str := if (mT o a b k).2 = true then [] else [tagW ++ k]
def tOf (o a b : Feat) (k : Str) : List Tag := if (mT o a b k).1.has = true then [⟨k, (mT o a b k).1.val⟩] else []
structure g87 (f : Feat) : Prop where
 id : f.id.size ≤ 7
 pts : f.shape.pts.length ≤ 6
 tags : f.tags.length ≤ 4
 key : ∀ t, t ∈ f.tags → t.key.size ≤ 7 ∧ t.val.size ≤ 7
 shape : dS7 f.shape = true
theorem hI7 {f : Feat} (h : bK7 f = true) : g87 f := by
 unfold bK7 s47 at h
 simp only [Bool.and_eq_true, decide_eq_true_eq] at h
 obtain ⟨h1, h2, h5, h6⟩ := h
 have h3 := h2
 unfold dS7 at h3
 simp only [Bool.and_eq_true, decide_eq_true_eq] at h3
 refine ⟨dA7 h1, h3.2.1, h6, fun t ht => ?_, h2⟩
 obtain ⟨j, hj⟩ := TM7 h5 ht
 simp only [Bool.and_eq_true] at hj
 exact ⟨dA7 hj.1, dA7 hj.2.1⟩
theorem sq7 {ts : List Tag} {k : Str} (h : ∀ t, t ∈ ts → t.key.size ≤ 7 ∧ t.val.size ≤ 7) : (cO7 ts k).val.size ≤ 7 := by
 unfold cO7
 split
 ·rename_i t e
  exact (h t (List.mem_of_find?_eq_some e)).2
 ·show (0 : Nat) ≤ 7
  omega
theorem mk7 {α : Type} [DecidableEq α] {o a b : α} : (bz7 o a b).1 = a ∨ (bz7 o a b).1 = b := by
 unfold bz7
 split
 ·exact .inr rfl
 ·split
  ·exact .inl rfl
  ·split <;> exact .inl rfl
theorem Cw7 {o a b : Val} : (zN7 o a b).1 = a ∨ (zN7 o a b).1 = b := by
 unfold zN7
 split
 ·exact mk7
 ·split
  ·exact .inl rfl
  ·exact .inr rfl
section
variable {o a b : Feat}
theorem Hm7 (k : Str) : (tOf o a b k).length ≤ 1 := by
 unfold tOf
 split <;> simp
theorem zO7 (k : Str) : (wOf o a b k).length ≤ 1 := by
 unfold wOf
 split <;> simp
theorem wf {k : Str} {p : Bool} (h : (mT o a b k).2 = p) : wOf o a b k = if p = true then [] else [tagW ++ k] := by
 unfold wOf
 rw [h]
theorem tf {k : Str} {p : Bool} (h : (mT o a b k).1.has = p) : tOf o a b k = if p = true then [⟨k, (mT o a b k).1.val⟩] else [] := by
 unfold tOf
 rw [h]
theorem Cx7 {α β : Type} {f : α → List β} (h : ∀ x, (f x).length ≤ 1) : ∀ l : List α, (l.flatMap f).length ≤ l.length
 | [] => by simp
 | x :: l => by
  have h1 := h x
  have h2 := Cx7 h l
  simp only [List.flatMap_cons, List.length_append, List.length_cons]
  omega
theorem tA7 {k : Str} (h : k.size ≤ 1000) : cat (⟨#[116, 97, 103, 32]⟩ : Str) k = some (tagW ++ k) := by
 unfold cat
 rw [if_pos]
 ·rfl
 ·show 4 + k.size ≤ _
  omega
theorem vy7 (ho : g87 o) (ha : g87 a) (hb : g87 b) : ∀ (l : List Str) (j : Nat) (w : List Str) (ts : List Tag), (∀ k, k ∈ l → k.size ≤ 7) → w.length + l.length ≤ 1000 → ts.length + l.length ≤ 1000 → cA7 o a b l j w ts = some (w ++ l.flatMap (wOf o a b), ts ++ l.flatMap (tOf o a b))
 | [], j, w, ts, hk, hw, ht => by simp [cA7]
 | k :: l, j, w, ts, hk, hw, ht => by
  have h1 := ho.tags; have h2 := ha.tags; have h3 := hb.tags
  have hks := hk k (by simp)
  simp only [List.length_cons] at hw ht
  have ih := fun w ts hw ht => vy7 ho ha hb l (j + 1) w ts (fun k h => hk k (by simp [h])) hw ht
  simp only [cA7]
  rw [Hk7 (by omega) (by omega) (by omega), Option.bind_some, show zN7 (cO7 o.tags k) (cO7 a.tags k) (cO7 b.tags k) = mT o a b k from rfl, List.flatMap_cons, List.flatMap_cons]
  cases e1 : (mT o a b k).2 <;> cases e2 : (mT o a b k).1.has
  ·rw [if_pos (by simp), tA7 (by omega), Option.bind_some, if_pos (aa7 (by simp; omega)), if_neg (by simp), ih _ _ (by simp; omega) (by omega)]
   rw [wf e1, tf e2]; simp
  ·rw [if_pos (by simp), tA7 (by omega), Option.bind_some, if_pos (aa7 (by simp; omega)), if_pos (by simp), if_pos (aa7 (by simp; omega)), ih _ _ (by simp; omega) (by simp; omega)]
   rw [wf e1, tf e2]; simp
  ·rw [if_neg (by simp), if_neg (by simp), ih _ _ (by omega) (by omega)]
   rw [wf e1, tf e2]; simp
  ·rw [if_neg (by simp), if_pos (by simp), if_pos (aa7 (by simp; omega)), ih _ _ (by omega) (by simp; omega)]
   rw [wf e1, tf e2]; simp
theorem vz7 (ho : g87 o) (ha : g87 a) (hb : g87 b) : ∀ (l : List Str) (j : Nat) (w : List Str) (ts : List Tag), (∀ k, k ∈ l → k.size ≤ 7) → w.length + l.length ≤ 1000 → ts.length + l.length ≤ 1000 → dt7 a b o l j w ts = some (w ++ l.flatMap (wOf o a b), ts ++ l.flatMap (tOf o a b))
 | [], j, w, ts, hk, hw, ht => by simp [dt7]
 | k :: l, j, w, ts, hk, hw, ht => by
  have h1 := ho.tags; have h2 := ha.tags; have h3 := hb.tags
  have hks := hk k (by simp)
  simp only [List.length_cons] at hw ht
  have ih := fun w ts hw ht => vz7 ho ha hb l (j + 1) w ts (fun k h => hk k (by simp [h])) hw ht
  simp only [dt7]
  rw [mg7 (by omega), Option.bind_some, mg7 (by omega), Option.bind_some, mg7 (by omega), Option.bind_some, Cs7, Option.bind_some, List.flatMap_cons, List.flatMap_cons]
  have e0 : mT o a b k = zN7 (cO7 o.tags k) (cO7 a.tags k) (cO7 b.tags k) := rfl
  have key : ((if (!(bz7 (cO7 o.tags k) (cO7 a.tags k) (cO7 b.tags k)).2) = true then ((cat (⟨#[116, 97, 103, 32]⟩ : Str) k).bind fun x292 => if aE7 (w ++ ([x292] : (List Str))).length = true then if (!(cO7 a.tags k).has) = true then (some ((w ++ ([x292] : (List Str))), (cO7 b.tags k).has, (cO7 b.tags k).val)) else (some ((w ++ ([x292] : (List Str))), (cO7 a.tags k).has, (cO7 a.tags k).val)) else none) else (some (w, (bz7 (cO7 o.tags k) (cO7 a.tags k) (cO7 b.tags k)).1.has, (bz7 (cO7 o.tags k) (cO7 a.tags k) (cO7 b.tags k)).1.val)) : Option ((List Str) × Bool × Str))) = some (w ++ wOf o a b k, (mT o a b k).1.has, (mT o a b k).1.val) := by
   unfold wOf
   rw [e0]
   unfold zN7
   cases e1 : (bz7 (cO7 o.tags k) (cO7 a.tags k) (cO7 b.tags k)).2
   ·rw [if_pos (by simp), tA7 (by omega), Option.bind_some, if_pos (aa7 (by simp; omega))]
    cases e2 : (cO7 a.tags k).has <;> simp [e2]
   ·simp [e1]
  refine (congrArg (fun z => Option.bind z _) key).trans ?_
  simp only [Option.bind_some]
  have hwl := zO7 (o := o) (a := a) (b := b) k
  cases e2 : (mT o a b k).1.has
  ·rw [if_neg (by simp), ih _ _ (by simp; omega) (by omega)]
   rw [tf e2]; simp
  ·rw [if_pos (by simp), if_pos (aa7 (by simp; omega)), ih _ _ (by simp; omega) (by simp; omega)]
   rw [tf e2]; simp
end
def bw7 (o a b : aR7) : aR7 × Bool := if (bz7 o a b).2 = true then bz7 o a b else if a.kind = b.kind ∧ a.kind = o.kind then (match j27 o.pts a.pts b.pts with
 | some p => if dS7 ⟨a.kind, p⟩ = true then (⟨a.kind, p⟩, true) else (a, false)
 | none => (a, false)) else (a, false)
theorem Cy7 {o a b : aR7} (ha : a.pts.length ≤ 1048576) (hb : b.pts.length ≤ 1048576) : rt7 o a b = some (bz7 o a b) := by
 unfold rt7 bz7
 rw [fJ7 ha, Option.bind_some]
 by_cases h1 : a = o
 ·rw [if_pos (decide_eq_true h1), if_pos h1]
 ·rw [if_neg (by simp [h1]), if_neg h1, fJ7 hb, Option.bind_some]
  by_cases h2 : b = o
  ·rw [if_pos (decide_eq_true h2), if_pos h2]
  ·rw [if_neg (by simp [h2]), if_neg h2, fJ7 ha, Option.bind_some]
   by_cases h3 : a = b
   ·rw [if_pos (decide_eq_true h3), if_pos h3]
   ·rw [if_neg (by simp [h3]), if_neg h3]
theorem zP7 {o a b : List Pt} {pa pb : List cv7} (ho : o.length ≤ 12) (ha : a.length ≤ 12) (hb : b.length ≤ 12) : ∀ (n at_ i j k : Nat) (out p : List Pt), mg o a b pa pb n at_ i j k out = some p → p.length ≤ out.length + 13 * n + 12
 | 0, at_, i, j, k, out, p, h => by
  simp only [mg] at h
  cases hp : pick (mu7 o i at_) (a.drop j) (b.drop k) with
  | none => rw [hp] at h; cases h
  | some q =>
   have hq := iG7 (by rw [List.length_drop]; omega) (by rw [List.length_drop]; omega) hp
   rw [hp] at h
   cases h
   simp
   omega
 | n + 1, at_, i, j, k, out, p, h => by
  simp only [mg] at h
  split at h
  ·rename_i x y hx hy
   cases hp : pick (mu7 o i at_) (mu7 a j x) (mu7 b k y) with
   | none => rw [hp] at h; cases h
   | some q =>
    have hq := iG7 (c97 (i := j) (j := x) ha) (c97 (i := k) (j := y) hb) hp
    rw [hp] at h
    have := zP7 ho ha hb n _ _ _ _ _ _ h
    have h2 : (o[at_]?).toList.length ≤ 1 := by cases o[at_]? <;> simp
    simp only [List.length_append] at this
    omega
  ·have := zP7 ho ha hb n _ _ _ _ _ _ h
   omega
theorem jp7 {o a b p : List Pt} (ho : o.length ≤ 12) (ha : a.length ≤ 12) (hb : b.length ≤ 12) (h : j27 o a b = some p) : p.length ≤ 200 := by
 have := zP7 ho ha hb _ _ _ _ _ _ _ h
 simp at this
 omega
theorem jq7 {o a b : aR7} (h1 : ¬a = o) (h2 : ¬b = o) (h3 : ¬a = b) : bw7 o a b = if a.kind = b.kind ∧ a.kind = o.kind then (match j27 o.pts a.pts b.pts with
 | some p => if dS7 ⟨a.kind, p⟩ = true then (⟨a.kind, p⟩, true) else (a, false)
 | none => (a, false)) else (a, false) := by
 unfold bw7 bz7
 rw [if_neg h1, if_neg h2, if_neg h3, if_neg (fun h => by cases h)]
theorem dK7 {o a b : aR7} (h : a = o ∨ b = o ∨ a = b) : bw7 o a b = bz7 o a b := by
 unfold bw7
 rw [if_pos]
 unfold bz7
 by_cases h1 : a = o
 ·simp [h1]
 ·by_cases h2 : b = o
  ·simp [h1, h2]
  ·by_cases h3 : a = b
   ·simp [h1, h2, h3]
   ·simp_all
theorem zQ7 {o a b : aR7} (ho : o.pts.length ≤ 12) (ha : a.pts.length ≤ 12) (hb : b.pts.length ≤ 12) : qY7 o a b = some (bw7 o a b) := by
 unfold qY7
 rw [fI7 (by omega), Option.bind_some]
 by_cases h1 : a = o
 ·rw [if_pos (decide_eq_true h1), dK7 (.inl h1)]
  unfold bz7
  rw [if_pos h1]
 ·rw [if_neg (by simp [h1]), fI7 (by omega), Option.bind_some]
  by_cases h2 : b = o
  ·rw [if_pos (decide_eq_true h2), dK7 (.inr (.inl h2))]
   unfold bz7
   rw [if_neg h1, if_pos h2]
   rfl
  ·rw [if_neg (by simp [h2]), fI7 (by omega)]
   simp only [Option.bind_some]
   by_cases h3 : a = b
   ·rw [if_pos (decide_eq_true h3), dK7 (.inr (.inr h3))]
    unfold bz7
    rw [if_neg h1, if_neg h2, if_pos h3]
   ·rw [if_neg (by simp [h3]), jq7 h1 h2 h3]
    by_cases k1 : a.kind = b.kind
    ·rw [if_neg (by simp [k1])]
     by_cases k2 : a.kind = o.kind
     ·rw [if_neg (by simp [k2]), if_pos ⟨k1, k2⟩, zL7 ho ha hb, Option.bind_some]
      unfold jo7
      cases hm : j27 o.pts a.pts b.pts with
      | none => simp
      | some p =>
       have := jp7 ho ha hb hm
       simp only
       rw [if_neg (by simp), r77 (by simp only; omega), Option.bind_some]
       cases dS7 ⟨a.kind, p⟩ <;> simp
     ·rw [if_pos (by simp [k2]), if_neg (fun h => k2 h.2)]
    ·rw [if_pos (by simp [k1]), if_neg (fun h => k1 h.1)]
def shW : Str := ⟨#[115, 104, 97, 112, 101]⟩
def TN7 : Str := ⟨#[109, 117, 99, 104]⟩
def fjF (o a b : Feat) : Feat := ⟨a.id, (bw7 o.shape a.shape b.shape).1, (g77 o.tags a.tags b.tags).flatMap (tOf o a b)⟩
def fjW (o a b : Feat) : List Str := (if (bw7 o.shape a.shape b.shape).2 = true then [] else [shW]) ++ (g77 o.tags a.tags b.tags).flatMap (wOf o a b)
def mFJ (o a b : Feat) : Feat × List Str := if bK7 (fjF o a b) = true then (fjF o a b, fjW o a b) else (a, [TN7])
theorem Cz7 {xs : List Str} : (Go.Lib.compact xs).length ≤ xs.length := by
 unfold Go.Lib.compact Go.Lib.compactUpTo
 rw [List.length_map]
 exact Nat.le_trans (List.length_filter_le _ _) (by simp)
theorem iI7 {o a b : List Tag} : (g77 o a b).length ≤ o.length + a.length + b.length := by
 have := Cz7 (xs := ((o ++ a ++ b).map (·.key)).mergeSort leS)
 unfold g77
 simp only [List.length_mergeSort, List.length_map, List.length_append] at this
 omega
theorem hJ7 {o a b : aR7} (ho : o.pts.length ≤ 12) (ha : a.pts.length ≤ 12) (hb : b.pts.length ≤ 12) : (bw7 o a b).1.pts.length ≤ 200 := by
 by_cases h : a = o ∨ b = o ∨ a = b
 ·rw [dK7 h]
  rcases mk7 (o := o) (a := a) (b := b) with h | h <;> rw [h] <;> omega
 ·rw [jq7 (fun e => h (.inl e)) (fun e => h (.inr (.inl e))) (fun e => h (.inr (.inr e)))]
  split
  ·split
   ·rename_i p hp
    split
    ·exact jp7 ho ha hb hp
    ·simp only; omega
   ·simp only; omega
  ·simp only; omega
theorem iJ7 {o a b : Feat} (ho : g87 o) (ha : g87 a) (hb : g87 b) : ∀ k, k ∈ g77 o.tags a.tags b.tags → k.size ≤ 7 := fun k hk => by
 rcases sp7.1 hk with h | h | h
 ·obtain ⟨t, ht, rfl⟩ := List.mem_map.1 h; exact (ho.key t ht).1
 ·obtain ⟨t, ht, rfl⟩ := List.mem_map.1 h; exact (ha.key t ht).1
 ·obtain ⟨t, ht, rfl⟩ := List.mem_map.1 h; exact (hb.key t ht).1
theorem ml7 {α : Type} {w : α → Nat} {c : Nat} : ∀ {l : List α}, (∀ x, x ∈ l → w x ≤ c) → a17 w l ≤ l.length * c
 | [], h => by simp [a17]
 | x :: l, h => by
  have h1 := h x (by simp)
  have h2 := ml7 (l := l) fun y hy => h y (by simp [hy])
  simp only [a17, List.length_cons, Nat.add_mul]
  omega
theorem Uw7 {o a b : Feat} (ho : g87 o) (ha : g87 a) (hb : g87 b) : aK7 (fjF o a b) ≤ 1000 := by
 have h1 := hJ7 (o := o.shape) (a := a.shape) (b := b.shape) (by have := ho.pts; omega) (by have := ha.pts; omega) (by have := hb.pts; omega)
 have h2 := iI7 (o := o.tags) (a := a.tags) (b := b.tags)
 have h3 := Cx7 (f := tOf o a b) (fun k => Hm7 k) (g77 o.tags a.tags b.tags)
 have t1 := ho.tags; have t2 := ha.tags; have t3 := hb.tags
 have h4 : a17 kB7 ((g77 o.tags a.tags b.tags).flatMap (tOf o a b)) ≤ ((g77 o.tags a.tags b.tags).flatMap (tOf o a b)).length * 14 := ml7 fun t ht => by
  obtain ⟨k, hk, hkt⟩ := List.mem_flatMap.1 ht
  have hs := iJ7 ho ha hb k hk
  unfold tOf at hkt
  split at hkt
  ·simp only [List.mem_singleton] at hkt
   subst hkt
   have v1 := sq7 (k := k) ha.key
   have v2 := sq7 (k := k) hb.key
   unfold kB7
   simp only
   rcases Cw7 (o := cO7 o.tags k) (a := cO7 a.tags k) (b := cO7 b.tags k) with e | e
   ·have : (mT o a b k).1.val.size ≤ 7 := by unfold mT; rw [e]; exact v1
    omega
   ·have : (mT o a b k).1.val.size ≤ 7 := by unfold mT; rw [e]; exact v2
    omega
  ·simp at hkt
 have h5 := qw7 (bw7 o.shape a.shape b.shape).1.pts
 have h6 := ha.id
 unfold fjF aK7 df7 wL
 simp only
 omega
theorem CA7 {o a b : Feat} (ho : bK7 o = true) (ha : bK7 a = true) (hb : bK7 b = true) : q17 o a b = some (mFJ o a b) := by
 have bo := hI7 ho; have ba := hI7 ha; have bb := hI7 hb
 have p1 := bo.pts; have p2 := ba.pts; have p3 := bb.pts
 have t1 := bo.tags; have t2 := ba.tags; have t3 := bb.tags
 have hp := hJ7 (o := o.shape) (a := a.shape) (b := b.shape) (by omega) (by omega) (by omega)
 have hk := iI7 (o := o.tags) (a := a.tags) (b := b.tags)
 have hw := Uw7 bo ba bb
 have hwa := mf7 ha
 unfold q17
 rw [zQ7 (by omega) (by omega) (by omega)]
 simp only [Option.bind_some]
 have k1 : ((if (!(bw7 o.shape a.shape b.shape).2) = true then (if aE7 ([] ++ ([(⟨#[115, 104, 97, 112, 101]⟩ : Str)] : (List Str))).length = true then some ([] ++ ([(⟨#[115, 104, 97, 112, 101]⟩ : Str)] : (List Str))) else none) else (some []) : Option (List Str))) = some (if (bw7 o.shape a.shape b.shape).2 = true then [] else [shW]) := by
  cases (bw7 o.shape a.shape b.shape).2
  ·rw [if_pos (by rfl), if_pos (aa7 (by simp))]; rfl
  ·rfl
 rw [k1, Option.bind_some]
 have k2 : ly7 (⟨(bw7 o.shape a.shape b.shape).1.kind, (bw7 o.shape a.shape b.shape).1.pts⟩ : aR7) = some (bw7 o.shape a.shape b.shape).1 := by
  unfold ly7
  rw [if_pos (aa7 (by simp; omega))]
  rfl
 rw [k2, Option.bind_some, Cv7 (by omega), Option.bind_some, if_pos (aa7 (by omega)), vy7 bo ba bb _ _ _ _ (iJ7 bo ba bb) (by split <;> simp <;> omega) (by simp; omega), Option.bind_some]
 simp only [List.nil_append]
 have k3 : lt7 (⟨a.id, (bw7 o.shape a.shape b.shape).1, (g77 o.tags a.tags b.tags).flatMap (tOf o a b)⟩ : Feat) = some (bK7 (fjF o a b)) := vf7 (f := fjF o a b) (by omega)
 rw [k3, Option.bind_some]
 unfold mFJ
 cases bK7 (fjF o a b)
 ·rw [if_pos (by rfl), pp7 (by omega)]; rfl
 ·rfl
theorem CB7 {xs : List (List Tag)} (h : xs.length ≤ 1000) (hs : (xs.flatten).length ≤ 1000) : rr7 xs = some xs.flatten := by
 have k1 : ∀ (l : List (List Tag)) (k n : Nat), n + l.flatten.length ≤ 1000 → fv7 l k (n : Int) = some ((n + l.flatten.length : Nat) : Int) := by
  intro l
  induction l with
  | nil => intro k n _; rfl
  | cons x l ih =>
   intro k n h
   simp only [List.flatten_cons, List.length_append] at h ⊢
   simp only [fv7]
   rw [show IntKind.i64.wrap ((n : Int) + (x.length : Int)) = ((n + x.length : Nat) : Int) by rw [wr1 (by omega) (by omega)]; omega, if_neg (by simp; omega), ih _ _ (by omega)]
   congr 2
   omega
 have k2 : ∀ (l : List (List Tag)) (k : Nat) (v : List Tag), v.length + l.flatten.length ≤ 1000 → ef7 l k v = some (v ++ l.flatten) := by
  intro l
  induction l with
  | nil => intro k v _; simp [ef7]
  | cons x l ih =>
   intro k v h
   simp only [List.flatten_cons, List.length_append] at h ⊢
   simp only [ef7]
   rw [if_pos (aa7 (by rw [List.length_append]; omega)), ih _ _ (by rw [List.length_append]; omega)]
   simp
 have h1 := k1 xs 0 0 (by omega)
 unfold rr7 Dp7 yk7
 rw [if_pos (aa7 (by omega))]
 refine (congrArg (fun z => Option.bind z _) h1).trans ?_
 simp only [Option.bind_some, Nat.zero_add]
 rw [if_pos (by rw [decide_eq_true (by omega), decide_eq_true (by omega)]; rfl), Option.bind_some, if_pos (aa7 (by omega)), k2 xs 0 [] (by rw [List.length_nil]; omega)]
 rfl
def PD7 (o a b : Feat) : Feat × List Str := if (bK7 o && (bK7 a && (bK7 b && (decide (o.id = a.id) && decide (o.id = b.id))))) = true then mFJ o a b else (nF, [])
theorem wG7 {o a b : Feat} (wo : aK7 o ≤ 1048576) (wa : aK7 a ≤ 1048576) (wb : aK7 b ≤ 1048576) : rv7 o a b = some (PD7 o a b) := by
 unfold rv7 PD7
 rw [iy7 wo, iy7 wa, iy7 wb, bP7, bP7]
 cases ho : bK7 o
 ·rfl
 cases ha : bK7 a
 ·rfl
 cases hb : bK7 b
 ·rfl
 by_cases i1 : o.id = a.id
 case neg => simp [i1, nF]
 by_cases i2 : o.id = b.id
 case neg => rw [i1] at i2; simp [i1, i2, nF]
 have bo := hI7 ho; have ba := hI7 ha; have bb := hI7 hb
 have p1 := bo.pts; have p2 := ba.pts; have p3 := bb.pts
 have t1 := bo.tags; have t2 := ba.tags; have t3 := bb.tags
 have hp := hJ7 (o := o.shape) (a := a.shape) (b := b.shape) (by omega) (by omega) (by omega)
 have hk := iI7 (o := o.tags) (a := a.tags) (b := b.tags)
 have hw := Uw7 bo ba bb
 have hwa := mf7 ha
 simp only [Bool.not_true, Bool.false_eq_true, if_false, Option.bind_some, decide_eq_true i1, decide_eq_true i2, if_true, Bool.and_self, Bool.true_and]
 rw [Cy7 (by omega) (by omega)]
 simp only [Option.bind_some]
 have k1 : ((if (!(bz7 o.shape a.shape b.shape).2) = true then (((if (o.shape.kind == a.shape.kind) = true then (if (o.shape.kind == b.shape.kind) = true then ((n17 o.shape.pts a.shape.pts b.shape.pts).bind fun x56 => if x56.2 = true then ((lC7 (⟨a.shape.kind, x56.1⟩ : aR7)).bind fun x61 => if x61 = true then (some (true, a.shape.kind, x56.1)) else (some (false, (bz7 o.shape a.shape b.shape).1.kind, (bz7 o.shape a.shape b.shape).1.pts))) else (some (false, (bz7 o.shape a.shape b.shape).1.kind, (bz7 o.shape a.shape b.shape).1.pts))) else (some (false, (bz7 o.shape a.shape b.shape).1.kind, (bz7 o.shape a.shape b.shape).1.pts))) else (some (false, (bz7 o.shape a.shape b.shape).1.kind, (bz7 o.shape a.shape b.shape).1.pts)) : Option (Bool × Int × (List Pt)))).bind fun q55 => if (!q55.1) = true then (if aE7 ([] ++ ([(⟨#[115, 104, 97, 112, 101]⟩ : Str)] : (List Str))).length = true then some (([] ++ ([(⟨#[115, 104, 97, 112, 101]⟩ : Str)] : (List Str))), q55.2.1, q55.2.2) else none) else (some ([], q55.2.1, q55.2.2))) else (some ([], (bz7 o.shape a.shape b.shape).1.kind, (bz7 o.shape a.shape b.shape).1.pts)) : Option ((List Str) × Int × (List Pt)))) =
   some (if (bw7 o.shape a.shape b.shape).2 = true then [] else [shW], (bw7 o.shape a.shape b.shape).1.kind, (bw7 o.shape a.shape b.shape).1.pts) := by
  by_cases h : a.shape = o.shape ∨ b.shape = o.shape ∨ a.shape = b.shape
  ·have h2 : (bz7 o.shape a.shape b.shape).2 = true := by
    unfold bz7
    by_cases h1 : a.shape = o.shape
    ·simp [h1]
    ·by_cases h2 : b.shape = o.shape
     ·simp [h1, h2]
     ·have h3 : a.shape = b.shape := by simp_all
      rw [if_neg h1, if_neg h2, if_pos h3]
   rw [dK7 h, h2]
   rfl
  ·have n1 : ¬ a.shape = o.shape := fun e => h (.inl e)
   have n2 : ¬ b.shape = o.shape := fun e => h (.inr (.inl e))
   have n3 : ¬ a.shape = b.shape := fun e => h (.inr (.inr e))
   have h2 : bz7 o.shape a.shape b.shape = (a.shape, false) := by
    unfold bz7
    rw [if_neg n1, if_neg n2, if_neg n3]
   have hj := jq7 n1 n2 n3
   rw [h2]
   simp only [Bool.not_false, if_true]
   by_cases q1 : o.shape.kind = a.shape.kind
   ·by_cases q2 : o.shape.kind = b.shape.kind
    ·rw [if_pos (by simpa using q1), if_pos (by simpa using q2), wF7 (by omega) (by omega) (by omega)]
     rw [if_pos ⟨q1.symm.trans q2, q1.symm⟩] at hj
     rw [hj]
     unfold jo7
     cases hm : j27 o.shape.pts a.shape.pts b.shape.pts with
     | none => rfl
     | some p =>
      have := jp7 (by omega) (by omega) (by omega) hm
      simp only [Option.bind_some, if_true]
      rw [r87 (by simp only; omega), Option.bind_some]
      by_cases hs : dS7 ⟨a.shape.kind, p⟩ = true
      ·simp only [hs, if_true]; rfl
      ·simp only [hs]; rfl
    ·rw [if_neg (fun h => q2 (q1.trans h.1))] at hj
     rw [hj, if_pos (by simpa using q1), if_neg (by simpa using q2)]
     rfl
   ·rw [if_neg (fun h => q1 h.2.symm)] at hj
    rw [hj, if_neg (by simpa using q1)]
    rfl
 refine (congrArg (fun z => Option.bind z _) k1).trans ?_
 simp only [Option.bind_some]
 have k2 : lG7 (⟨(bw7 o.shape a.shape b.shape).1.kind, (bw7 o.shape a.shape b.shape).1.pts⟩ : aR7) = some (bw7 o.shape a.shape b.shape).1 := by
  unfold lG7
  rw [if_pos (aa7 (by simp; omega))]
  rfl
 have k3 : ∀ (l : List Tag) (k : Nat) (v : List Str), v.length + l.length ≤ 1000 → jR7 l k v = some (v ++ l.map (·.key)) := by
  intro l
  induction l with
  | nil => intro k v _; simp [jR7]
  | cons x l ih =>
   intro k v h
   simp only [List.length_cons] at h
   simp only [jR7]
   rw [if_pos (aa7 (by simp; omega)), ih _ _ (by simp; omega)]
   simp
 have hfl : ([o.tags, a.tags, b.tags] : List (List Tag)).flatten = o.tags ++ a.tags ++ b.tags := by simp
 rw [k2, Option.bind_some, CB7 (by simp) (by rw [hfl]; simp; omega), Option.bind_some, hfl, if_pos (aa7 (by simp; omega)), k3 _ 0 [] (by simp; omega), Option.bind_some, List.nil_append]
 unfold rn7 uX7 qq7 wf7
 rw [if_pos (aa7 (by simp; omega)), Option.bind_some, if_pos (aa7 (by simp [List.length_mergeSort]; omega)), Option.bind_some, show Go.Lib.compact (((o.tags ++ a.tags ++ b.tags).map (·.key)).mergeSort leS) = g77 o.tags a.tags b.tags from rfl, if_pos (aa7 (by omega)), vz7 bo ba bb _ _ _ _ (iJ7 bo ba bb) (by split <;> simp <;> omega) (by simp; omega), Option.bind_some]
 simp only [List.nil_append]
 have k4 : he7 (⟨a.id, (bw7 o.shape a.shape b.shape).1, (g77 o.tags a.tags b.tags).flatMap (tOf o a b)⟩ : Feat) = some (bK7 (fjF o a b)) := iy7 (f := fjF o a b) (by omega)
 rw [k4, Option.bind_some]
 unfold mFJ
 cases bK7 (fjF o a b)
 ·rw [if_pos (by rfl), fM7 (by omega)]; rfl
 ·rfl
def wH7 : Str := ⟨#[103, 111, 110, 101]⟩
def Hn7 : Str := ⟨#[98, 111, 116, 104]⟩
def mJ1 (o a b : Feat × Bool) : (Feat × Bool) × List Str :=
 if (bz7 o a b).2 = true then ((bz7 o a b).1, [])
 else if a.2 = false then ((b.1, true), [wH7])
 else if b.2 = false then ((a.1, true), [wH7])
 else if o.2 = false then ((a.1, true), [Hn7])
 else (((mFJ o.1 a.1 b.1).1, true), (mFJ o.1 a.1 b.1).2)
def cf7 (o a b : List Feat) (id : Str) : (Feat × Bool) × List Str := mJ1 (bE7 o id) (bE7 a id) (bE7 b id)
def iK7 (o a b : List Feat) : List Str := HE7 (a.foldl (fun v x => hL7 x v) o) b
theorem CC7 {o a b : List Feat} (h : Pw o) : SPw (iK7 o a b) := Hh7 (tw7 h)
theorem sr7 {o a b : List Feat} {i : Str} : i ∈ iK7 o a b ↔ i ∈ o.map (·.id) ∨ i ∈ a.map (·.id) ∨ i ∈ b.map (·.id) := by
 unfold iK7 HE7
 rw [pu7, pu7, or_assoc]
theorem CD7 {o a b : List Feat} (hp : Pw o) (ha : o.length + a.length + b.length ≤ 1000) : rs7 [o, a, b] = some (iK7 o a b) := by
 have k5 : ∀ (l : List Feat) (k : Nat) (v : List Str), v.length + l.length ≤ 1000 → eg7 l k v = some (v ++ l.map (·.id)) := by
  intro l
  induction l with
  | nil => intro k v _; simp [eg7]
  | cons x l ih =>
   intro k v h
   simp only [List.length_cons] at h
   simp only [eg7]
   rw [if_pos (aa7 (by simp; omega)), ih _ _ (by simp; omega)]
   simp
 have hm : ((o.map (·.id) ++ a.map (·.id) ++ b.map (·.id)).mergeSort leS).length ≤ 1000 := by rw [List.length_mergeSort]; simp; omega
 unfold rs7
 simp only [gN7, aa7 (n := [o, a, b].length) (by simp), aa7 (n := o.length) (by omega), aa7 (n := a.length) (by omega), aa7 (n := b.length) (by omega), k5 o 0 [] (by simp; omega), k5 a 0 (o.map (·.id)) (by simp; omega), k5 b 0 (o.map (·.id) ++ a.map (·.id)) (by simp; omega), if_true, Option.bind_some, List.nil_append, rn7, qq7, aa7 (n := (o.map (·.id) ++ a.map (·.id) ++ b.map (·.id)).length) (by simp; omega), uX7, wf7, aa7 (n := ((o.map (·.id) ++ a.map (·.id) ++ b.map (·.id)).mergeSort leS).length) (by omega)]
 congr 1
 refine zF7 (zH7 (List.pairwise_mergeSort sh7 si7 _)) (CC7 hp) fun x => ?_
 rw [vs7, (List.mergeSort_perm _ leS).mem_iff, List.mem_append, List.mem_append, sr7, or_assoc]
theorem kH7 : ∀ {l v : List Feat}, (l.foldl (fun v x => hL7 x v) v).length ≤ v.length + l.length
 | [], v => by simp
 | x :: l, v => by
  have h1 := iF7 (f := x) v
  have h2 := kH7 (l := l) (v := hL7 x v)
  simp only [List.foldl_cons, List.length_cons]
  omega
theorem Ho7 {o a b : List Feat} (ha : o.length + a.length + b.length ≤ 1000) : q37 o a b = some (iK7 o a b) := by
 have k1 : ∀ (l : List Feat) (k : Nat) (v : List Feat), v.length + l.length ≤ 1000 → fh7 l k v = some (l.foldl (fun v x => hL7 x v) v) := by
  intro l
  induction l with
  | nil => intro k v _; rfl
  | cons x l ih =>
   intro k v h
   simp only [List.length_cons] at h
   have hp := iF7 (f := x) v
   simp only [fh7]
   rw [zC7 (by omega), Option.bind_some, ih (k + 1) (hL7 x v) (by omega), List.foldl_cons]
 have hl := kH7 (l := a) (v := o)
 unfold q37 iK7
 rw [if_pos (aa7 (by omega)), k1 a 0 o (by omega), Option.bind_some, Cn7 (by omega)]
 rfl
theorem iL7 {o a b : List Feat} : (iK7 o a b).length ≤ o.length + a.length + b.length := by
 have h1 := kH7 (l := a) (v := o)
 have h2 := kH7 (l := b) (v := a.foldl (fun v x => hL7 x v) o)
 unfold iK7 HE7
 rw [List.length_map]
 omega
theorem bx7 {s : List Feat} {id : Str} (h : ∀ f, f ∈ s → bK7 f = true) (h2 : (bE7 s id).2 = true) : bK7 (bE7 s id).1 = true := by
 unfold bE7 at h2 ⊢
 split
 ·rename_i f e
  exact h f (List.mem_of_find?_eq_some e)
 ·rename_i e
  rw [e] at h2
  cases h2
theorem gp7 {s : List Feat} {id : Str} (h : (bE7 s id).2 = false) : bE7 s id = (nF, false) := by
 unfold bE7 at h ⊢
 split
 ·rename_i f e
  rw [e] at h
  cases h
 ·rfl
theorem tB7 {s : List Feat} (h : a97 s = true) : ∀ f, f ∈ s → bK7 f = true := fun f hf => by
 unfold a97 at h
 rw [Bool.and_eq_true] at h
 obtain ⟨j, hj⟩ := TM7 h.1 hf
 rw [Bool.and_eq_true] at hj
 exact hj.1
theorem Hp7 {o a b : List Feat} {id : Str} (wo : wL aK7 o ≤ 1048576) (wa : wL aK7 a ≤ 1048576) (wb : wL aK7 b ≤ 1048576) (fo : ∀ f, f ∈ o → bK7 f = true) (fa : ∀ f, f ∈ a → bK7 f = true) (fb : ∀ f, f ∈ b → bK7 f = true) : q57 o a b id = some ((cf7 o a b id).1.1, (cf7 o a b id).1.2, (cf7 o a b id).2) := by
 unfold q57 cf7
 have s1 := oi7 (s := o) (id := id)
 have s2 := oi7 (s := a) (id := id)
 have s3 := oi7 (s := b) (id := id)
 have n1 := gp7 (s := o) (id := id)
 have n2 := gp7 (s := a) (id := id)
 have n3 := gp7 (s := b) (id := id)
 have m1 := bx7 (id := id) fo
 have m2 := bx7 (id := id) fa
 have m3 := bx7 (id := id) fb
 rw [pt7 wo, pt7 wa, pt7 wb]
 generalize bE7 o id = so at *
 generalize bE7 a id = sa at *
 generalize bE7 b id = sb at *
 obtain ⟨ofe, oh⟩ := so
 obtain ⟨af, ah⟩ := sa
 obtain ⟨bf, bh⟩ := sb
 simp only at s1 s2 s3 n1 n2 n3 m1 m2 m3
 have e : (⟨af.id, ⟨af.shape.kind, af.shape.pts⟩, af.tags⟩ : Feat) = af := rfl
 simp only [Option.bind_some, e]
 rw [gY7 (a := af) (b := ofe) (by omega), gY7 (a := bf) (b := ofe) (by omega), gY7 (a := af) (b := bf) (by omega)]
 simp only [Option.bind_some]
 unfold mJ1 bz7
 simp only [Prod.mk.injEq]
 cases oh <;> cases ah <;> cases bh
 ·obtain rfl := (Prod.mk.inj (n1 rfl)).1
  obtain rfl := (Prod.mk.inj (n2 rfl)).1
  obtain rfl := (Prod.mk.inj (n3 rfl)).1
  simp
 ·obtain rfl := (Prod.mk.inj (n1 rfl)).1
  obtain rfl := (Prod.mk.inj (n2 rfl)).1
  simp
 ·obtain rfl := (Prod.mk.inj (n1 rfl)).1
  obtain rfl := (Prod.mk.inj (n3 rfl)).1
  simp
 ·by_cases h : af = bf <;> simp [h, Hn7]
 ·obtain rfl := (Prod.mk.inj (n2 rfl)).1
  obtain rfl := (Prod.mk.inj (n3 rfl)).1
  simp
 ·by_cases h : bf = ofe <;> simp [h, wH7]
 ·by_cases h : af = ofe <;> simp [h, wH7]
 ·by_cases h1 : af = ofe
  ·simp [h1]
  ·by_cases h2 : bf = ofe
   ·simp [h1, h2]
   ·by_cases h3 : af = bf
    ·subst h3
     simp [h1]
    ·simp [h1, h2, h3, CA7 (m1 rfl) (m2 rfl) (m3 rfl)]
def oF (o a b : List Feat) (id : Str) : List Feat := if (cf7 o a b id).1.2 = true then [(cf7 o a b id).1.1] else []
def oC (o a b : List Feat) (id : Str) : List ap7 := (cf7 o a b id).2.map fun w => ⟨id, w⟩
def sjF (o a b : List Feat) : List Feat := (iK7 o a b).flatMap (oF o a b)
def sjC (o a b : List Feat) : List ap7 := (iK7 o a b).flatMap (oC o a b)
def mSJ (o a b : List Feat) : List Feat × List ap7 × Bool := if (a97 o && (a97 a && (a97 b && a97 (sjF o a b)))) = true then (sjF o a b, sjC o a b, true) else ([], [], false)
theorem CE7 {o a b : Feat} (ha : bK7 a = true) : bK7 (mFJ o a b).1 = true := by
 unfold mFJ
 split
 ·assumption
 ·exact ha
theorem Hq7 {o a b : Feat} (ho : g87 o) (ha : g87 a) (hb : g87 b) : (fjW o a b).length ≤ 13 := by
 have hk := iI7 (o := o.tags) (a := a.tags) (b := b.tags)
 have t1 := ho.tags; have t2 := ha.tags; have t3 := hb.tags
 have h3 := Cx7 (f := wOf o a b) (fun k => zO7 k) (g77 o.tags a.tags b.tags)
 unfold fjW
 rw [List.length_append]
 split
 ·rw [List.length_nil]; omega
 ·rw [List.length_singleton]; omega
section
variable {o a b : List Feat}
structure Sh (s : List Feat) : Prop where
 w : wL aK7 s ≤ 1048576
 f : ∀ f, f ∈ s → bK7 f = true
theorem zR7 (ho : Sh o) (ha : Sh a) (hb : Sh b) (id : Str) (h : (cf7 o a b id).1.2 = true) : bK7 (cf7 o a b id).1.1 = true := by
 have n1 := gp7 (s := o) (id := id)
 have n2 := gp7 (s := a) (id := id)
 have n3 := gp7 (s := b) (id := id)
 have m1 := bx7 (id := id) ho.f
 have m2 := bx7 (id := id) ha.f
 have m3 := bx7 (id := id) hb.f
 unfold cf7 at h ⊢
 generalize bE7 o id = so at *
 generalize bE7 a id = sa at *
 generalize bE7 b id = sb at *
 unfold mJ1 at h ⊢
 split at h
 ·rename_i ht
  rw [if_pos ht]
  rcases mk7 (o := so) (a := sa) (b := sb) with e | e
  ·rw [e] at h ⊢; exact m2 h
  ·rw [e] at h ⊢; exact m3 h
 ·rename_i ht
  rw [if_neg ht]
  by_cases h1 : sa.2 = false
  ·rw [if_pos h1]
   apply m3
   cases hb2 : sb.2 with
   | true => rfl
   | false =>
    exfalso
    apply ht
    have e : sa = sb := by rw [n2 h1, n3 hb2]
    unfold bz7
    rw [e]
    by_cases q : sb = so <;> simp [q]
  ·rw [if_neg h1]
   have h1 : sa.2 = true := by cases h : sa.2 <;> simp_all
   split
   ·exact m2 h1
   ·split
    ·exact m2 h1
    ·exact CE7 (m2 h1)
theorem zS7 (ho : Sh o) (ha : Sh a) (hb : Sh b) (id : Str) : (cf7 o a b id).2.length ≤ 13 := by
 have m1 := bx7 (id := id) ho.f
 have m2 := bx7 (id := id) ha.f
 have m3 := bx7 (id := id) hb.f
 unfold cf7
 generalize bE7 o id = so at *
 generalize bE7 a id = sa at *
 generalize bE7 b id = sb at *
 unfold mJ1
 split
 ·simp
 ·split
  ·simp
  ·split
   ·simp
   ·split
    ·simp
    ·rename_i h1 h2 h3
     have b1 := hI7 (m1 (by cases h : so.2 <;> simp_all))
     have b2 := hI7 (m2 (by cases h : sa.2 <;> simp_all))
     have b3 := hI7 (m3 (by cases h : sb.2 <;> simp_all))
     have := Hq7 b1 b2 b3
     unfold mFJ
     split
     ·exact this
     ·simp
theorem zT7 (id : Str) : (oF o a b id).length ≤ 1 := by
 unfold oF
 split <;> simp
theorem cl5 {id : Str} : ∀ (l : List Str) (k : Nat) (v : List ap7), v.length + l.length ≤ 1048576 → d47 id l k v = some (v ++ l.map fun w => ⟨id, w⟩)
 | [], k, v, _ => by simp [d47]
 | x :: l, k, v, h => by
  simp only [List.length_cons] at h
  simp only [d47]
  rw [if_pos (aa7 (by simp; omega)), cl5 l _ _ (by simp; omega)]
  simp
theorem cl9 {id : Str} : ∀ (l : List Str) (k : Nat) (v : List ap7), v.length + l.length ≤ 1048576 → eh7 id l k v = some (v ++ l.map fun w => ⟨id, w⟩)
 | [], k, v, _ => by simp [eh7]
 | x :: l, k, v, h => by
  simp only [List.length_cons] at h
  simp only [eh7]
  rw [if_pos (aa7 (by simp; omega)), cl9 l _ _ (by simp; omega)]
  simp
theorem of_ {id : Str} {p : Bool} (h : (cf7 o a b id).1.2 = p) : oF o a b id = if p = true then [(cf7 o a b id).1.1] else [] := by
 unfold oF
 rw [h]
theorem zU7 (ho : Sh o) (ha : Sh a) (hb : Sh b) : ∀ (l : List Str) (k : Nat) (v : List Feat) (c : List ap7), v.length + l.length ≤ 10000 → c.length + 13 * l.length ≤ 100000 → d57 o a b l k v c = some (v ++ l.flatMap (oF o a b), c ++ l.flatMap (oC o a b))
 | [], k, v, c, _, _ => by simp [d57]
 | x :: l, k, v, c, hv, hc => by
  simp only [List.length_cons] at hv hc
  have hl := zS7 ho ha hb x
  simp only [d57]
  rw [Hp7 ho.w ha.w hb.w ho.f ha.f hb.f, Option.bind_some]
  simp only
  have k1 : ((if (cf7 o a b x).1.2 = true then (if aE7 (v ++ ([(cf7 o a b x).1.1] : (List Feat))).length = true then some (v ++ ([(cf7 o a b x).1.1] : (List Feat))) else none) else (some v) : Option (List Feat))) = some (v ++ oF o a b x) := by
   cases h : (cf7 o a b x).1.2
   ·rw [of_ h]; simp
   ·rw [of_ h, if_pos rfl, if_pos (aa7 (by simp; omega))]; rfl
  have hf := zT7 (o := o) (a := a) (b := b) x
  rw [k1, Option.bind_some, if_pos (aa7 (by omega)), cl5 _ _ _ (by omega), Option.bind_some, zU7 ho ha hb l _ _ _ (by simp; omega) (by simp; omega), List.flatMap_cons, List.flatMap_cons, List.append_assoc, List.append_assoc]
  rfl
end
theorem br7 {s : List Feat} (h : a97 s = true) : s.length ≤ 8 := by
 unfold a97 at h
 rw [Bool.and_eq_true] at h
 exact of_decide_eq_true h.2
theorem kp7 {s : List Feat} (h : a97 s = true) : Sh s := by
 have hf := tB7 h
 have hl := br7 h
 have hw : a17 aK7 s ≤ s.length * 100 := ml7 fun f hm => mf7 (hf f hm)
 exact ⟨by unfold wL; omega, hf⟩
section
variable {o a b : List Feat}
theorem Hr7 : (sjF o a b).length ≤ o.length + a.length + b.length := by
 have h1 := Cx7 (f := oF o a b) (fun k => zT7 k) (iK7 o a b)
 have h2 := iL7 (o := o) (a := a) (b := b)
 unfold sjF
 omega
theorem CF7 (ho : Sh o) (ha : Sh a) (hb : Sh b) : ∀ f, f ∈ sjF o a b → bK7 f = true := fun f hf => by
 obtain ⟨id, _, h⟩ := List.mem_flatMap.1 hf
 unfold oF at h
 split at h
 ·rename_i h2
  rw [List.mem_singleton.1 h]
  exact zR7 ho ha hb id h2
 ·simp at h
theorem Hs7 (ho : a97 o = true) (ha : a97 a = true) (hb : a97 b = true) : wL aK7 (sjF o a b) ≤ 10000 := by
 have h1 := Hr7 (o := o) (a := a) (b := b)
 have l1 := br7 ho; have l2 := br7 ha; have l3 := br7 hb
 have hw : a17 aK7 (sjF o a b) ≤ (sjF o a b).length * 100 := ml7 fun f hm => mf7 (CF7 (kp7 ho) (kp7 ha) (kp7 hb) f hm)
 unfold wL
 omega
theorem tC7 (wo : wL aK7 o ≤ 1048576) (wa : wL aK7 a ≤ 1048576) (wb : wL aK7 b ≤ 1048576) : q77 o a b = some (mSJ o a b) := by
 unfold q77 mSJ
 rw [gk7 wo, gk7 wa, gk7 wb]
 cases ho : a97 o
 ·rfl
 cases ha : a97 a
 ·rfl
 cases hb : a97 b
 ·rfl
 have l1 := br7 ho; have l2 := br7 ha; have l3 := br7 hb
 have hi := iL7 (o := o) (a := a) (b := b)
 have hw := Hs7 ho ha hb
 simp only [Option.bind_some, Bool.not_true, Bool.false_eq_true, if_false, Bool.true_and]
 unfold uG7
 rw [Ho7 (by omega), Option.bind_some, if_pos (aa7 (by omega)), zU7 (kp7 ho) (kp7 ha) (kp7 hb) _ _ _ _ (by simp; omega) (by simp; omega), Option.bind_some]
 simp only [List.nil_append]
 rw [show (iK7 o a b).flatMap (oF o a b) = sjF o a b from rfl, pq7 (by omega), Option.bind_some, gk7 (by omega)]
 cases a97 (sjF o a b) <;> rfl
def th (p : Feat × Bool) : db7 := ⟨p.2, p.1⟩
theorem mm7 {s : List Feat} {id : Str} (h : wL aK7 s ≤ 1048576) : lI7 s id = some (th (bE7 s id)) := by
 unfold lI7
 rw [Pc7 h]
 rfl
theorem zV7 {p q : Feat × Bool} (h : aK7 p.1 ≤ 1048576) : lJ7 (th p) (th q) = some (decide (p = q)) := by
 obtain ⟨f, x⟩ := p
 obtain ⟨g, y⟩ := q
 unfold lJ7 th
 simp only
 rw [oc7 (a := f) (b := g) h]
 cases x <;> cases y <;> simp
theorem CG7 {o a b : Feat × Bool} (ha : aK7 a.1 ≤ 1048576) (hb : aK7 b.1 ≤ 1048576) : rx7 (th o) (th a) (th b) = some (th (bz7 o a b).1, (bz7 o a b).2) := by
 unfold rx7 bz7
 rw [zV7 ha, zV7 hb, zV7 ha]
 simp only [Option.bind_some]
 by_cases h1 : a = o
 ·simp [h1]
 ·by_cases h2 : b = o
  ·simp [h1, h2]
  ·by_cases h3 : a = b
   ·simp [h1, h2, h3]
   ·simp [h1, h2, h3]
theorem tD7 (ho : Sh o) (ha : Sh a) (hb : Sh b) (hid : ∀ id, (bE7 o id).2 = true → (bE7 o id).1.id = id) (hia : ∀ id, (bE7 a id).2 = true → (bE7 a id).1.id = id) (hib : ∀ id, (bE7 b id).2 = true → (bE7 b id).1.id = id) : ∀ (l : List Str) (k : Nat) (c : List ap7) (v : List Feat), v.length + l.length ≤ 10000 → c.length + 13 * l.length ≤ 100000 → du7 o a b l k c v = some (c ++ l.flatMap (oC o a b), v ++ l.flatMap (oF o a b))
 | [], k, c, v, _, _ => by simp [du7]
 | x :: l, k, c, v, hv, hc => by
  simp only [List.length_cons] at hv hc
  have hl := zS7 ho ha hb x
  have hf := zT7 (o := o) (a := a) (b := b) x
  have hfe := zR7 ho ha hb x
  have s1 := oi7 (s := o) (id := x)
  have s2 := oi7 (s := a) (id := x)
  have s3 := oi7 (s := b) (id := x)
  have w1 := ho.w; have w2 := ha.w; have w3 := hb.w
  have m1 := bx7 (id := x) ho.f
  have m2 := bx7 (id := x) ha.f
  have m3 := bx7 (id := x) hb.f
  have n2 := gp7 (s := a) (id := x)
  have n3 := gp7 (s := b) (id := x)
  have d1 := hid x; have d2 := hia x; have d3 := hib x
  simp only [du7]
  rw [mm7 ho.w, Option.bind_some, mm7 ha.w, Option.bind_some, mm7 hb.w, Option.bind_some]
  simp only [Option.bind_some]
  have e1 : ∀ p : Feat × Bool, (⟨(th p).has, ⟨(th p).f.id, ⟨(th p).f.shape.kind, (th p).f.shape.pts⟩, (th p).f.tags⟩⟩ : db7) = th p := fun p => rfl
  have e2 : ∀ p : Feat × Bool, (⟨(th p).f.id, ⟨(th p).f.shape.kind, (th p).f.shape.pts⟩, (th p).f.tags⟩ : Feat) = p.1 := fun p => rfl
  have e3 : ∀ p : Feat × Bool, (th p).has = p.2 := fun p => rfl
  have e5 : ∀ p : Feat × Bool, (⟨p.2, p.1⟩ : db7) = th p := fun p => rfl
  simp only [e2, e3, e5]
  rw [CG7 (by omega) (by omega), Option.bind_some]
  have hj : cf7 o a b x = mJ1 (bE7 o x) (bE7 a x) (bE7 b x) := rfl
  refine (congrArg (fun z => Option.bind z _) (?_ : _ = some (c ++ oC o a b x, (cf7 o a b x).1.2, (cf7 o a b x).1.1.id, (cf7 o a b x).1.1.shape.kind, (cf7 o a b x).1.1.shape.pts, (cf7 o a b x).1.1.tags))).trans ?_
  ·unfold oC
   rw [hj] at hl ⊢
   generalize bE7 o x = so at *
   generalize bE7 a x = sa at *
   generalize bE7 b x = sb at *
   simp only [e3]
   unfold mJ1 at hl ⊢
   by_cases ht : (bz7 so sa sb).2 = true
   ·rw [if_pos ht, if_pos ht]
    simp [th]
   ·rw [if_neg ht] at hl ⊢
    rw [if_neg ht]
    by_cases h1 : sa.2 = false
    ·have e : (!sa.2) = true := by rw [h1]; rfl
     rw [if_pos e, if_pos e, if_pos h1, if_pos (aa7 (by simp; omega))]
     have hb2 : sb.2 = true := by
      cases hb2 : sb.2 with
      | true => rfl
      | false =>
       exfalso
       apply ht
       have e : sa = sb := by rw [n2 h1, n3 hb2]
       unfold bz7
       rw [e]
       by_cases q : sb = so <;> simp [q]
     simp [th, wH7, hb2]
    ·have e : ¬ (!sa.2) = true := by cases h : sa.2 <;> simp_all
     have h1' : sa.2 = true := by cases h : sa.2 <;> simp_all
     rw [if_neg e, if_neg h1]
     rw [if_neg h1] at hl
     by_cases h2 : sb.2 = false
     ·have e' : (!sb.2) = true := by rw [h2]; rfl
      rw [if_pos e', if_neg e, if_pos h2, if_pos (aa7 (by simp; omega))]
      simp [th, wH7, h1']
     ·have e' : ¬ (!sb.2) = true := by cases h : sb.2 <;> simp_all
      have h2' : sb.2 = true := by cases h : sb.2 <;> simp_all
      rw [if_neg e', if_neg h2]
      rw [if_neg h2] at hl
      by_cases h3 : so.2 = false
      ·have e'' : (!so.2) = true := by rw [h3]; rfl
       rw [if_pos e'', if_pos h3, if_pos (aa7 (by simp; omega))]
       simp [th, Hn7, h1']
      ·have e'' : ¬ (!so.2) = true := by cases h : so.2 <;> simp_all
       have h3' : so.2 = true := by cases h : so.2 <;> simp_all
       rw [if_neg e'', if_neg h3]
       rw [if_neg h3] at hl
       have hFJ : PD7 so.1 sa.1 sb.1 = mFJ so.1 sa.1 sb.1 := by
        unfold PD7
        rw [m1 h3', m2 h1', m3 h2', d1 h3', d2 h1', d3 h2']
        simp
       rw [wG7 (by omega) (by omega) (by omega), hFJ]
       simp only [Option.bind_some]
       simp only at hl
       rw [if_pos (aa7 (by omega)), cl9 _ _ _ (by omega)]
       rfl
  ·simp only [Option.bind_some]
   have e4 : (⟨(cf7 o a b x).1.1.id, ⟨(cf7 o a b x).1.1.shape.kind, (cf7 o a b x).1.1.shape.pts⟩, (cf7 o a b x).1.1.tags⟩ : Feat) = (cf7 o a b x).1.1 := rfl
   rw [e4]
   have hcl : (oC o a b x).length ≤ 13 := by unfold oC; rw [List.length_map]; exact hl
   cases h : (cf7 o a b x).1.2
   ·rw [if_neg (by decide), tD7 ho ha hb hid hia hib l _ _ _ (by omega) (by simp; omega), List.flatMap_cons, List.flatMap_cons, of_ h]
    simp
   ·have hw := mf7 (hfe h)
    rw [if_pos rfl, fM7 (by omega), Option.bind_some, if_pos (aa7 (by simp; omega)), tD7 ho ha hb hid hia hib l _ _ _ (by simp; omega) (by simp; omega), List.flatMap_cons, List.flatMap_cons, of_ h]
    simp
theorem tE7 {s : List Feat} (id : Str) (h : (bE7 s id).2 = true) : (bE7 s id).1.id = id := by
 unfold bE7 at h ⊢
 split
 ·rename_i f e
  simpa using List.find?_some e
 ·rename_i e
  rw [e] at h
  cases h
theorem tF7 (wo : wL aK7 o ≤ 1048576) (wa : wL aK7 a ≤ 1048576) (wb : wL aK7 b ≤ 1048576) : ry7 o a b = some (mSJ o a b) := by
 unfold ry7 mSJ
 rw [gl7 wo, gl7 wa, gl7 wb]
 cases ho : a97 o
 ·rfl
 cases ha : a97 a
 ·rfl
 cases hb : a97 b
 ·rfl
 have l1 := br7 ho; have l2 := br7 ha; have l3 := br7 hb
 have hi := iL7 (o := o) (a := a) (b := b)
 have hw := Hs7 ho ha hb
 simp only [Option.bind_some, Bool.not_true, Bool.false_eq_true, if_false, Bool.true_and]
 rw [CD7 (zE7 ho) (by omega), Option.bind_some, if_pos (aa7 (by omega)), tD7 (kp7 ho) (kp7 ha) (kp7 hb) tE7 tE7 tE7 _ _ _ _ (by simp; omega) (by simp; omega), Option.bind_some]
 simp only [List.nil_append]
 rw [show (iK7 o a b).flatMap (oF o a b) = sjF o a b from rfl, gl7 (by omega), Option.bind_some]
 cases a97 (sjF o a b) <;> rfl
end
def gq7 (c : ap7) : Nat := c.id.size + (c.what.size + 0)
theorem Pf7 {α β : Type} {f : α → List β} {n : Nat} : ∀ (l : List α), (∀ x, x ∈ l → (f x).length ≤ n) → (l.flatMap f).length ≤ n * l.length
 | [], _ => Nat.zero_le _
 | x :: l, h => by
  have h1 := h x (by simp)
  have h2 := Pf7 l fun y hy => h y (by simp [hy])
  rw [List.flatMap_cons, List.length_append, List.length_cons, Nat.mul_add]
  omega
section
variable {o a b : List Feat}
theorem Ht7 (ho : Sh o) (ha : Sh a) (hb : Sh b) (id : Str) : ∀ w, w ∈ (cf7 o a b id).2 → w.size ≤ 11 := by
 have m1 := bx7 (id := id) ho.f
 have m2 := bx7 (id := id) ha.f
 have m3 := bx7 (id := id) hb.f
 unfold cf7
 generalize bE7 o id = so at *
 generalize bE7 a id = sa at *
 generalize bE7 b id = sb at *
 intro w hw
 unfold mJ1 at hw
 split at hw
 ·simp at hw
 ·split at hw
  ·rw [List.mem_singleton.1 hw]; decide
  ·split at hw
   ·rw [List.mem_singleton.1 hw]; decide
   ·split at hw
    ·rw [List.mem_singleton.1 hw]; decide
    ·rename_i h1 h2 h3
     have b1 := hI7 (m1 (by cases h : so.2 <;> simp_all))
     have b2 := hI7 (m2 (by cases h : sa.2 <;> simp_all))
     have b3 := hI7 (m3 (by cases h : sb.2 <;> simp_all))
     unfold mFJ at hw
     split at hw
     ·unfold fjW at hw
      rcases List.mem_append.1 hw with h | h
      ·split at h
       ·cases h
       ·rw [List.mem_singleton.1 h]; decide
      ·obtain ⟨k, hk, h⟩ := List.mem_flatMap.1 h
       have := iJ7 b1 b2 b3 k hk
       unfold wOf at h
       split at h
       ·cases h
       ·rw [List.mem_singleton.1 h, ByteArray.size_append]
        have e : tagW.size = 4 := rfl
        omega
     ·rw [List.mem_singleton.1 hw]; decide
theorem CH7 (h : (mSJ o a b).2.2 = true) : a97 (mSJ o a b).1 = true ∧ wL aK7 (mSJ o a b).1 ≤ 10000 := by
 unfold mSJ at h ⊢
 split
 ·rename_i hc
  simp only [Bool.and_eq_true] at hc
  exact ⟨hc.2.2.2, Hs7 hc.1 hc.2.1 hc.2.2.1⟩
 ·rename_i hc
  rw [if_neg hc] at h
  cases h
theorem CI7 : wL gq7 (mSJ o a b).2.1 ≤ 100000 := by
 unfold mSJ
 split
 ·rename_i hc
  simp only [Bool.and_eq_true] at hc
  have so := kp7 hc.1; have sa := kp7 hc.2.1; have sb := kp7 hc.2.2.1
  have l1 := br7 hc.1; have l2 := br7 hc.2.1; have l3 := br7 hc.2.2.1
  have hi := iL7 (o := o) (a := a) (b := b)
  have hl : (sjC o a b).length ≤ 13 * (iK7 o a b).length := Pf7 _ fun id _ => by
   unfold oC
   rw [List.length_map]
   exact zS7 so sa sb id
  have hw : ∀ c, c ∈ sjC o a b → gq7 c ≤ 18 := fun c hc => by
   obtain ⟨id, hid, h⟩ := List.mem_flatMap.1 hc
   unfold oC at h
   obtain ⟨w, hw, rfl⟩ := List.mem_map.1 h
   have h1 := Ht7 so sa sb id w hw
   have h2 : id.size ≤ 7 := by
    rcases sr7.1 hid with h | h | h <;> obtain ⟨f, hf, rfl⟩ := List.mem_map.1 h
    ·exact (hI7 (so.f f hf)).id
    ·exact (hI7 (sa.f f hf)).id
    ·exact (hI7 (sb.f f hf)).id
   unfold gq7
   simp only
   omega
  have := ml7 (w := gq7) (c := 18) hw
  unfold wL
  simp only
  omega
 ·exact Nat.zero_le _
end
def Pg7 (r : az7) (k : Int) : List Feat := ((r.commits[k.toNat]?).map Commit.sheet).getD []
theorem g17 {r : az7} {k : Nat} {x : Commit} (h : r.commits[k]? = some x) : Pg7 r (k : Int) = x.sheet := by
 unfold Pg7
 rw [Int.toNat_natCast, h]
 rfl
noncomputable def aP7 (r : az7) (a b : Int) : List Feat × List ap7 × Bool :=
 if (inR r a && inR r b) = true then mSJ (Pg7 r (cJ7 r a b)) (Pg7 r a) (Pg7 r b) else ([], [], false)
theorem zW7 {r : az7} {a b : Int} (hw : a47 r ≤ 1048576) : n37 r a b = some (aP7 r a b) := by
 unfold n37 aP7
 rw [wD7 hw, Option.bind_some]
 by_cases h : (inR r a && inR r b) = true
 ·rw [if_pos h]
  simp only [Bool.and_eq_true] at h
  obtain ⟨hr, x, rfl, hx⟩ := jY7 h.1
  obtain ⟨_, y, rfl, hy⟩ := jY7 h.2
  obtain ⟨k, k1, k2, _, _⟩ := j07 hr hx hy
  obtain ⟨c1, h1⟩ := oa7 hx
  obtain ⟨c2, h2⟩ := oa7 hy
  obtain ⟨c3, h3⟩ := oa7 k2
  rw [k1, if_neg (by simp), ah7, h3, Option.bind_some, ah7, h1, Option.bind_some, ah7, h2, Option.bind_some, tF7 (jm7 hw h3) (jm7 hw h1) (jm7 hw h2), g17 h1, g17 h2, g17 h3]
  rfl
 ·rw [iE7 h, if_neg h]
  rfl
theorem zX7 {r : az7} {a b : Int} (hw : a47 r ≤ 1048576) : nS7 r a b = some (aP7 r a b) := by
 unfold nS7 aP7
 rw [wC7 hw, Option.bind_some]
 by_cases h : (inR r a && inR r b) = true
 ·rw [if_pos h]
  simp only [Bool.and_eq_true] at h
  obtain ⟨hr, x, rfl, hx⟩ := jY7 h.1
  obtain ⟨_, y, rfl, hy⟩ := jY7 h.2
  obtain ⟨k, k1, k2, _, _⟩ := j07 hr hx hy
  obtain ⟨c1, h1⟩ := oa7 hx
  obtain ⟨c2, h2⟩ := oa7 hy
  obtain ⟨c3, h3⟩ := oa7 k2
  rw [k1, if_neg (by simp), ah7, h3, Option.bind_some, ah7, h1, Option.bind_some, ah7, h2, Option.bind_some, tC7 (jm7 hw h3) (jm7 hw h1) (jm7 hw h2), g17 h1, g17 h2, g17 h3]
  rfl
 ·rw [iE7 h, if_neg h]
  rfl
theorem CJ7 {r : az7} {a b : Int} (h : (aP7 r a b).2.2 = true) : a97 (aP7 r a b).1 = true ∧ wL aK7 (aP7 r a b).1 ≤ 10000 := by
 unfold aP7 at h ⊢
 split
 ·rename_i h1
  rw [if_pos h1] at h
  exact CH7 h
 ·rename_i h1
  rw [if_neg h1] at h
  cases h
def ss7 (r : az7) (i : Nat) (z : bg7) (c : Commit) : Bool × az7 :=
 if er7 r.commits c < 0 then (if r.commits.length = 14 then (false, r) else (true, ⟨r.commits ++ [c], eL7 r.heads i z r.commits.length⟩)) else (true, ⟨r.commits, eL7 r.heads i z (er7 r.commits c)⟩)
theorem TO7 {r : az7} {i : Nat} {z : bg7} {c : Commit} (hw : a47 r ≤ 1048576) (hz : r.heads[i]? = some z) (hc : ar7 c ≤ 1048576) : rA7 r (i : Int) c = some (ss7 r i z c) := by
 have hcw : wL ar7 r.commits ≤ 1048576 := by unfold a47 at hw; omega
 have hcl : r.commits.length ≤ 1048576 := by unfold wL at hcw; omega
 unfold rA7 ss7
 rw [iz7 hcw]
 simp only [Option.bind_some]
 by_cases f1 : er7 r.commits c < 0
 ·by_cases f2 : r.commits.length = 14
  ·simp [f1, f2]
  ·have f2' : ¬ ((r.commits.length : Int) = 14) := by omega
   have hfit : aE7 (r.commits.length + 1) = true := by unfold aE7; exact decide_eq_true (by omega)
   simp [f1, f2, f2', iD7 hc, ah7, hz, hfit, eL7]
 ·simp [f1, ah7, hz, eL7]
theorem CK7 {c : Commit} (h : ar7 c ≤ 1048576) : jM7 c = some c := by
 unfold ar7 wL at h
 unfold jM7
 rw [if_pos (aa7 (by simp; omega)), pq7 (by unfold wL; omega)]
 rfl
theorem vA7 {r : az7} {i : Nat} {z : bg7} {c : Commit} (hw : a47 r ≤ 1048576) (hz : r.heads[i]? = some z) (hc : ar7 c ≤ 1048576) (h : (ss7 r i z c).1 = true) : nT7 r (i : Int) c = some (ss7 r i z c).2 := by
 have hcw : wL ar7 r.commits ≤ 1048576 := by unfold a47 at hw; omega
 have hcl : r.commits.length ≤ 1048576 := by unfold wL at hcw; omega
 unfold nT7
 unfold ss7 at h ⊢
 rw [pl7 hcw]
 simp only [Option.bind_some]
 by_cases f1 : er7 r.commits c < 0
 ·by_cases f2 : r.commits.length = 14
  ·simp [f1, f2] at h
  ·have hfit : aE7 (r.commits.length + 1) = true := by unfold aE7; exact decide_eq_true (by omega)
   simp [f1, f2, CK7 hc, ah7, hz, hfit, eL7]
 ·simp [f1, ah7, hz, eL7]
noncomputable def mJW (r : az7) (i : Nat) (z : bg7) (b : Int) (t : Str) : az7 × List ap7 × Int :=
 if (aP7 r z.at_ b).2.2 = true then
  if (aP7 r z.at_ b).2.1 = [] then
   if (ss7 r i z ⟨[z.at_, b], (aP7 r z.at_ b).1, t⟩).1 = true then ((ss7 r i z ⟨[z.at_, b], (aP7 r z.at_ b).1, t⟩).2, [], 0) else (r, [], 5)
  else (r, (aP7 r z.at_ b).2.1, 3)
 else (r, [], 5)
open Classical in
noncomputable def mJH (r : az7) (n f t : Str) : az7 × List ap7 × Int :=
 if (dh7 r && by7 t) = true then
  match idx r.heads (cY7 r.heads n), idx r.heads (cY7 r.heads f) with
  | some z, some y =>
   if Anc r.commits z.at_.toNat y.at_.toNat then (r, [], 1)
   else if Anc r.commits y.at_.toNat z.at_.toNat then (⟨r.commits, eL7 r.heads (cY7 r.heads n).toNat z y.at_⟩, [], 2)
   else mJW r (cY7 r.heads n).toNat z y.at_ t
  | _, _ => (r, [], 4)
 else (⟨[], []⟩, [], 6)
theorem zY7 {t : Str} (h : by7 t = true) : t.size ≤ 6 := by
 unfold by7 at h
 simp only [Bool.and_eq_true, decide_eq_true_eq] at h
 exact h.2.2
theorem mn7 {r : az7} {z : bg7} {b : Int} {t : Str} (ht : by7 t = true) (h : (aP7 r z.at_ b).2.2 = true) : ar7 ⟨[z.at_, b], (aP7 r z.at_ b).1, t⟩ ≤ 20000 := by
 have h1 := CJ7 h
 have h2 := zY7 ht
 unfold ar7
 simp [wL, a17, w0] at h1 ⊢
 omega
open Classical in
theorem st7 {r : az7} {n f t : Str} (hw : a47 r ≤ 1048576) (ht : t.size ≤ 1048576) (hJ : ∀ z y, idx r.heads (cY7 r.heads n) = some z → idx r.heads (cY7 r.heads f) = some y → n37 r z.at_ y.at_ = some (aP7 r z.at_ y.at_)) : lK7 r n f t = some (mJH r n f t) := by
 have hh : r.heads.length ≤ 1048576 := by unfold a47 wL at hw; omega
 unfold lK7 mJH
 rw [vi7 hw, gX7 ht, tv7 hw, hF7 hh, hF7 hh]
 simp only [Option.bind_some]
 by_cases hr : dh7 r = true
 ·by_cases h2 : by7 t = true
  ·have hl := ix7 hr
   have hc := eH7 hr
   have hcl : r.commits.length ≤ 1048576 := by omega
   rw [hr, h2]
   rcases po7 hr n with h | ⟨k, a, z, g1, g2, g3, g4, g5⟩
   ·rw [h]
    rfl
   ·rcases po7 hr f with h' | ⟨j, b, y, q1, q2, q3, q4, q5⟩
    ·rw [h', g1, ah7, g2]
     have e1 : ¬ ((k : Int) < 0) := by omega
     simp [e1, idx]
    ·have e1 : ¬ ((k : Int) < 0) := by omega
     have e2 : ¬ ((j : Int) < 0) := by omega
     have hj := hJ z y (by rw [g1, ah7, g2]) (by rw [q1, ah7, q2])
     rw [q4] at hj
     rw [g1, q1, ah7, ah7, g2, q2]
     simp only [Bool.not_true, Bool.and_self, Bool.false_eq_true, if_true, if_false, Option.bind_some, e1, e2, decide_false, g4, q4, Int.toNat_natCast, sc7 hc hcl g5, sc7 hc hcl q5, ah7, eI7 g5, eI7 q5, decide_eq_true_eq]
     by_cases a1 : Anc r.commits a b
     ·rw [if_pos a1, if_pos a1]
     ·rw [if_neg a1, if_neg a1]
      by_cases a2 : Anc r.commits b a
      ·rw [if_pos a2, if_pos a2]
       rfl
      ·rw [if_neg a2, if_neg a2]
       unfold mJW
       rw [← g4] at *
       rw [hj, Option.bind_some]
       by_cases j1 : (aP7 r z.at_ b).2.2 = true
       ·by_cases j2 : (aP7 r z.at_ b).2.1 = []
        ·have hcm := mn7 (b := (b : Int)) h2 j1
         rw [TO7 hw g2 (by omega)]
         simp only [j1, j2, Option.bind_some, Bool.not_true, Bool.false_eq_true, if_false, List.length_nil, if_true]
         cases hs : (ss7 r k z ⟨[z.at_, (b : Int)], (aP7 r z.at_ b).1, t⟩).1
         ·have : (ss7 r k z ⟨[z.at_, (b : Int)], (aP7 r z.at_ b).1, t⟩).2 = r := by
           unfold ss7 at hs ⊢
           split at hs
           ·split at hs
            ·rename_i u1 u2
             rw [if_pos u1, if_pos u2]
            ·cases hs
           ·cases hs
          simp [this]
         ·simp
        ·have j2' : ((aP7 r z.at_ b).2.1.length : Int) > 0 := by
          have := List.length_pos_iff.2 j2
          omega
         simp only [j1, Bool.not_true, Bool.false_eq_true, if_false, j2', decide_true, if_true, j2]
       ·simp only [Bool.not_eq_true] at j1
        simp only [j1, Bool.not_false, if_true, Bool.false_eq_true, if_false]
  ·simp only [Bool.not_eq_true] at h2
   rw [hr, h2]
   rfl
 ·simp only [Bool.not_eq_true] at hr
  rw [hr]
  rfl
theorem tG7 {r : az7} {n f t : Str} (hw : a47 r ≤ 1048576) (ht : t.size ≤ 1048576) : lK7 r n f t = some (mJH r n f t) := st7 hw ht fun z y _ _ => zW7 hw
open Classical in
theorem mo7 {r : az7} {i k : Nat} (hw : a47 r ≤ 1048576) (hr : dh7 r = true) (hi : i < r.commits.length) (hk : k < r.commits.length) : nU7 r (i : Int) (k : Int) = some (decide (Anc r.commits k i)) := by
 have hl := ix7 hr
 unfold nU7
 rw [vj7 hw, Option.bind_some, hr, if_pos (by simp; omega), vj7 hw, Option.bind_some, hr, if_pos (by simp; omega), jk7 (eH7 hr) (by omega) hk, Option.bind_some, ah7, eI7 hi]
 rfl
open Classical in
theorem su7 {r : az7} {n f t : Str} (hw : a47 r ≤ 1048576) (ht : t.size ≤ 1048576) (hJ : ∀ z y, idx r.heads (cY7 r.heads n) = some z → idx r.heads (cY7 r.heads f) = some y → nS7 r z.at_ y.at_ = some (aP7 r z.at_ y.at_)) : n67 r n f t = some (mJH r n f t) := by
 have hh : r.heads.length ≤ 1048576 := by unfold a47 wL at hw; omega
 unfold n67 mJH
 rw [vh7 hw, gW7 ht, Cj7 hw, pm7 hh, pm7 hh]
 simp only [Option.bind_some]
 by_cases hr : dh7 r = true
 ·by_cases h2 : by7 t = true
  ·have hl := ix7 hr
   have hc := eH7 hr
   have hcl : r.commits.length ≤ 1048576 := by omega
   have hcw : wL ar7 r.commits ≤ 1048576 := by unfold a47 at hw; omega
   rw [hr, h2]
   rcases po7 hr n with h | ⟨k, a, z, g1, g2, g3, g4, g5⟩
   ·rw [h]
    rfl
   ·rcases po7 hr f with h' | ⟨j, b, y, q1, q2, q3, q4, q5⟩
    ·rw [h', g1, ah7, g2]
     have e1 : ¬ ((k : Int) < 0) := by omega
     simp [e1, idx]
    ·have e1 : ¬ ((k : Int) < 0) := by omega
     have e2 : ¬ ((j : Int) < 0) := by omega
     have hj := hJ z y (by rw [g1, ah7, g2]) (by rw [q1, ah7, q2])
     rw [q4] at hj
     rw [g1, q1, ah7, ah7, g2, q2]
     simp only [Bool.not_true, Bool.and_self, Bool.false_eq_true, if_true, if_false, Option.bind_some, e1, e2, decide_false, g4, q4, Int.toNat_natCast, mo7 hw hr g5 q5, mo7 hw hr q5 g5, decide_eq_true_eq]
     by_cases a1 : Anc r.commits a b
     ·rw [if_pos a1, if_pos a1]
     ·rw [if_neg a1, if_neg a1]
      by_cases a2 : Anc r.commits b a
      ·rw [if_pos a2, if_pos a2]
       rfl
      ·rw [if_neg a2, if_neg a2]
       unfold mJW uH7
       rw [← g4] at *
       rw [hj, Option.bind_some]
       by_cases j1 : (aP7 r z.at_ b).2.2 = true
       ·by_cases j2 : (aP7 r z.at_ b).2.1 = []
        ·have hcm := mn7 (b := (b : Int)) h2 j1
         rw [pl7 hcw]
         simp only [j1, j2, Option.bind_some, Bool.not_true, Bool.false_eq_true, if_false, List.length_nil, if_true]
         by_cases f1 : er7 r.commits ⟨[z.at_, (b : Int)], (aP7 r z.at_ b).1, t⟩ < 0
         ·by_cases f2 : r.commits.length = 14
          ·simp [ss7, f1, f2]
          ·have f2' : ¬ ((14 : Int) ≤ (r.commits.length : Int)) := by omega
           have hs : (ss7 r k z ⟨[z.at_, (b : Int)], (aP7 r z.at_ b).1, t⟩).1 = true := by simp [ss7, f1, f2]
           rw [vA7 hw g2 (by omega) hs, hs]
           simp [f1, f2']
         ·have hs : (ss7 r k z ⟨[z.at_, (b : Int)], (aP7 r z.at_ b).1, t⟩).1 = true := by simp [ss7, f1]
          rw [vA7 hw g2 (by omega) hs, hs]
          simp [f1]
        ·have j2' : ((aP7 r z.at_ b).2.1.length : Int) > 0 := by
          have := List.length_pos_iff.2 j2
          omega
         simp only [j1, Bool.not_true, Bool.false_eq_true, if_false, j2', decide_true, if_true, j2, Option.bind_some]
       ·simp only [Bool.not_eq_true] at j1
        simp only [j1, Bool.not_false, if_true, Bool.false_eq_true, if_false, Option.bind_some]
  ·simp only [Bool.not_eq_true] at h2
   rw [hr, h2]
   rfl
 ·simp only [Bool.not_eq_true] at hr
  rw [hr]
  rfl
theorem tH7 {r : az7} {n f t : Str} (hw : a47 r ≤ 1048576) (ht : t.size ≤ 1048576) : n67 r n f t = some (mJH r n f t) := su7 hw ht fun z y _ _ => zX7 hw
theorem zZ7 : Eqs rH7 gq7 := by
 intro x h
 simp [rH7, c77]
theorem wI7 : Eqs n77 (wL gq7) := hE7 zZ7 (gl := gV7) (fun _ _ => rfl) (fun _ _ _ _ => rfl) (fun _ _ => rfl)
theorem wJ7 {x : List ap7} {k : Int} (hw : wL gq7 x ≤ 3145728) (hk : 0 < k) (hb : k + a17 c2 x ≤ kM) : ∃ y, lL7 x k = some (k + a17 c2 x, y) ∧ n97 y k = some (k + a17 c2 x) := by
 obtain ⟨y, h, h2, h3⟩ := c17 (gf := lL7) (hl := fun l j k K => fD7 l j k = some (.inr K)) (c := c2) (w := gq7) (fun _ _ => rfl) (fun n k xs => by simp only [dv7, eK7]; rfl) (fun x k _ hk hb => by
  unfold c2 at hb ⊢
  obtain ⟨t1, h1⟩ := bj7 (k := k) (by omega)
  obtain ⟨t2, h2⟩ := bj7 (k := k + 1) (by omega)
  refine ⟨⟨t1, t2⟩, fun n i xs hx hi => ?_, fun l j K hl => ?_⟩
  ·simp only [dv7, eJ7 hx, if_true, ah7, hx, h1, h2, Option.bind_some, mw hk (by omega), mw (show 0 < k + 1 by omega) (by omega), miw hi, Int.toNat_natCast, dJ7 hx, List.set_set, mc7]
  ·rw [mc7] at hl
   simp only [fD7, c77, Bool.not_true, h1, h2, Option.bind_some, mw hk (by omega), mw (show 0 < k + 1 by omega) (by omega)]
   exact hl) (fun _ _ => rfl) x k hw hk hb
 refine ⟨y, h, ?_⟩
 unfold n97
 rw [if_pos (dR7 (by unfold wL at hw; omega)), h3]
 rfl
theorem Ph7 {α : Type} (x : List α) : a17 c2 x = 2 * x.length := by
 induction x with
 | nil => rfl
 | cons y x ih => simp only [a17, List.length_cons, ih, c2]; omega
theorem TP7 {n : Int} {w : Nat} (h : ¬ (w : Int) ≤ n) : decide (left n w < 0) = true := by rw [e07 h]; rfl
theorem TQ7 {n : Int} {w : Nat} (h : (w : Int) ≤ n) : left n w = n - w ∧ decide (left n w < 0) = false := by rw [h87 h]; exact ⟨rfl, by simp; omega⟩
theorem CL7 {r : az7} {a b : Int} : wL gq7 (aP7 r a b).2.1 ≤ 100000 := by
 unfold aP7
 split
 ·exact CI7
 ·exact Nat.zero_le _
theorem mp7 {hs : List bg7} {i : Nat} {h : bg7} {v : Int} (hh : hs[i]? = some h) : wL dn7 (eL7 hs i h v) ≤ wL dn7 hs := by
 have := pr7 (w := dn7) hs i h ⟨h.name, v⟩ hh (Nat.le_refl _)
 unfold wL eL7
 simp only [List.length_set]
 omega
theorem Pi7 {r : az7} {i : Nat} {z : bg7} {c : Commit} (hz : r.heads[i]? = some z) : a47 (ss7 r i z c).2 ≤ a47 r + (1 + ar7 c) := by
 unfold ss7
 split
 ·split
  ·exact Nat.le_add_right _ _
  ·have h1 := mp7 (v := r.commits.length) hz
   have h2 := me7 (w := ar7) r.commits c
   unfold a47
   unfold wL at *
   simp only [List.length_append, List.length_singleton]
   omega
 ·have h1 := mp7 (v := er7 r.commits c) hz
  unfold a47
  simp only
  omega
theorem TR7 {r : az7} {i : Nat} {z : bg7} {b : Int} {t : Str} (hz : r.heads[i]? = some z) (ht : by7 t = true) : a47 (mJW r i z b t).1 ≤ a47 r + 20001 ∧ wL gq7 (mJW r i z b t).2.1 ≤ 100000 := by
 have hc := CL7 (r := r) (a := z.at_) (b := b)
 unfold mJW
 split
 ·rename_i h1
  have hw := mn7 (b := b) ht h1
  split
  ·split
   ·have := Pi7 (c := ⟨[z.at_, b], (aP7 r z.at_ b).1, t⟩) hz
    exact ⟨by simp only; omega, Nat.zero_le _⟩
   ·exact ⟨by simp only; omega, Nat.zero_le _⟩
  ·exact ⟨by simp only; omega, hc⟩
 ·exact ⟨by simp only; omega, Nat.zero_le _⟩
theorem TS7 {r : az7} {n f t : Str} : a47 (mJH r n f t).1 ≤ a47 r + 20001 ∧ wL gq7 (mJH r n f t).2.1 ≤ 100000 := by
 unfold mJH
 split
 ·rename_i h
  simp only [Bool.and_eq_true] at h
  split
  ·rename_i z y hz hy
   have hz' := (aq7 hz).2
   split
   ·exact ⟨by simp only; omega, Nat.zero_le _⟩
   ·split
    ·have h1 := mp7 (v := y.at_) hz'
     refine ⟨?_, Nat.zero_le _⟩
     unfold a47
     simp only
     omega
    ·exact TR7 hz' h.2
  ·exact ⟨by simp only; omega, Nat.zero_le _⟩
 ·exact ⟨Nat.zero_le _, Nat.zero_le _⟩
theorem g97 (r : az7) (n f t : Str) (hr : yq7 r) (_ : okS n) (_ : okS f) (_ : okS t) : u87 r n f t = some true := by
 unfold u87
 by_cases hn : (n.size : Int) > 1048576
 ·rw [if_pos (by simpa using hn)]
 by_cases hf : (f.size : Int) > 1048576
 ·rw [if_neg (by simpa using hn), if_pos (by simpa using hf)]
 by_cases ht : (t.size : Int) > 1048576
 ·rw [if_neg (by simpa using hn), if_neg (by simpa using hf), if_pos (by simpa using ht)]
 rw [if_neg (by simpa using hn), if_neg (by simpa using hf), if_neg (by simpa using ht), B67 r 1048576 hr (by decide) (by decide)]
 simp only [Option.bind_some]
 by_cases hw : (a47 r : Int) ≤ 1048576
 ·have h1 : a47 r ≤ 1048576 := by omega
  rw [(TQ7 hw).2]
  have hc := vm7 r
  obtain ⟨x, hx⟩ := Ce7 (x := r) (k := 1) (by omega) (by decide) (by unfold kM; omega)
  have hs := tH7 (n := n) (f := f) (t := t) h1 (by omega)
  have hi := tG7 (n := n) (f := f) (t := t) h1 (by omega)
  have hb := TS7 (r := r) (n := n) (f := f) (t := t)
  generalize mJH r n f t = q at hs hi hb
  obtain ⟨s, c, k⟩ := q
  simp only at hb
  have hcs := vm7 s
  have hcc := Ph7 c
  have hcl : c.length ≤ 100000 := by have := hb.2; unfold wL at this; omega
  obtain ⟨y, hy1, hy2⟩ := Ci7 (x := s) (k := 1) (by omega) (by decide) (by unfold kM; omega)
  obtain ⟨z, hz1, hz2⟩ := wJ7 (x := c) (k := 1 + jl7 s) (by omega) (by omega) (by unfold kM; omega)
  have e1 : ¬ ((1 : Int) + jl7 r < 0) := by omega
  have e2 : ¬ ((1 : Int) + jl7 s < 0) := by omega
  have e3 : ¬ ((1 : Int) + jl7 s + a17 c2 c < 0) := by omega
  simp [B77 r h1, hs, hi, ve7 r (by omega), ve7 s (by omega), wI7 c (by omega), hx, hy1, hy2, hz1, hz2, e1, e2, e3]
 ·rw [TP7 hw]
  rfl
end Go.Proofs.AM
