/- Lemmas of the proof (KHP), on an abstract machine. Conditions: none. -/
import Derived.Test.YtknajiljcemblaaGreatKHD
import Derived.Test.YtknajiljcemblaaGreatM2
set_option linter.unusedVariables false
set_option linter.unusedSimpArgs false
set_option maxRecDepth 10000
namespace Go.Proofs.AM
theorem s_WordOk {s : Str} (h : s.size ≤ 1048576) : gf_cf9 s = some (mWord s) := by
 unfold gf_cf9 mWord
 rw [if_pos (fits_small h), loopB (gl := gl_cf9_1) (p := fun (b : UInt8) _ => decide (97 ≤ b.toNat) && decide (b.toNat ≤ 122)) (xs := s.data.toList) (fun _ => rfl) (fun x l k _ => ?_) s.data.toList 0 rfl]
 ·have e1 : ((s.size : Int) ≥ 1) ↔ 1 ≤ s.size := by omega
  have e2 : ((s.size : Int) ≤ 6) ↔ s.size ≤ 6 := by omega
  cases allFrom (fun (b : UInt8) _ => decide (97 ≤ b.toNat) && decide (b.toNat ≤ 122)) s.data.toList 0
  ·rfl
  ·by_cases h1 : 1 ≤ s.size <;> simp [e1, e2, h1]
 ·have e1 : ((x.toNat : Int) < 97) ↔ ¬ 97 ≤ x.toNat := by omega
  have e2 : ((x.toNat : Int) > 122) ↔ ¬ x.toNat ≤ 122 := by omega
  simp only [gl_cf9_1, e1, e2]
  by_cases h1 : 97 ≤ x.toNat <;> by_cases h2 : x.toNat ≤ 122 <;> simp [h1, h2]
theorem i_WordOk {s : Str} (h : s.size ≤ 1048576) : gf_au9 s = some (mWord s) := by
 unfold gf_au9 mWord
 rw [if_pos (fits_small h), loopB (gl := gl_au9_1) (p := fun (b : UInt8) _ => decide (97 ≤ b.toNat) && decide (b.toNat ≤ 122)) (xs := s.data.toList) (fun _ => rfl) (fun x l k _ => ?_) s.data.toList 0 rfl]
 ·have e1 : ((s.size : Int) ≥ 1) ↔ 1 ≤ s.size := by omega
  have e2 : ((s.size : Int) ≤ 6) ↔ s.size ≤ 6 := by omega
  cases allFrom (fun (b : UInt8) _ => decide (97 ≤ b.toNat) && decide (b.toNat ≤ 122)) s.data.toList 0
  ·rfl
  ·by_cases h1 : 1 ≤ s.size <;> simp [gf_be9, e1, e2, h1]
 ·have e1 : ((x.toNat : Int) < 97) ↔ ¬ 97 ≤ x.toNat := by omega
  have e2 : ((x.toNat : Int) > 122) ↔ ¬ x.toNat ≤ 122 := by omega
  simp only [gl_au9_1, e1, e2]
  by_cases h1 : 97 ≤ x.toNat <;> by_cases h2 : x.toNat ≤ 122 <;> simp [h1, h2]
theorem s_l1Num (n : Int) : gf_cq9 n = some (mNum n) := by
 unfold gf_cq9 mNum
 by_cases h : -1000 ≤ n <;> simp [h]
theorem i_within (n a b : Int) : gf_be9 n a b = some (decide (a ≤ n) && decide (n ≤ b)) := by
 unfold gf_be9
 by_cases h : a ≤ n <;> simp [h]
theorem s_l1Pts {xs : List Pt} (h : xs.length ≤ 1048576) : gf_cs9 xs = some (mPts xs && decide (xs.length ≤ 6)) := by
 unfold gf_cs9 mPts
 rw [if_pos (fits_small h), loopB (gl := gl_cs9_1 xs) (p := fun p k => mNum p.x && (mNum p.y && (decide (k = 0) || decide (xs[k - 1]? ≠ some p)))) (xs := xs) (fun _ => rfl) (fun x l k hd => ?_) xs 0 rfl]
 ·rw [show decide ((xs.length : Int) ≤ 6) = decide (xs.length ≤ 6) from decI]
  exact endB
 ·simp only [gl_cs9_1, s_l1Num, Option.bind_some, ptb, posI]
  rcases Nat.eq_zero_or_pos k with rfl | hk
  ·cases mNum x.x <;> cases mNum x.y <;> simp
  ·obtain ⟨y, hy⟩ := drop_prev hd hk
   have hl := drop_len hd
   have hw := wrap_pred hk (by omega)
   rw [hw, idx_nat, hy]
   have hk' : ¬ k = 0 := by omega
   by_cases e : x = y
   ·subst e
    cases mNum x.x <;> cases mNum x.y <;> simp [hk, hk', hy]
   ·have e' : ¬ y = x := fun h => e h.symm
    cases mNum x.x <;> cases mNum x.y <;> simp [hk, hk', hy, e, e']
theorem s_ShapeOk {x : Shape} (h : x.pts.length ≤ 1048576) : gf_ca9 x = some (mShape x) := by
 unfold gf_ca9 mShape
 rw [s_l1Pts h]
 simp only [Option.bind_some, ptb]
 have c1 : ((x.pts.length : Int) == 1) = decide (x.pts.length = 1) := by
  by_cases e : x.pts.length = 1 <;> simp [e] <;> omega
 have c2 : ((x.pts.length : Int) ≥ 2) ↔ 2 ≤ x.pts.length := by omega
 have c3 : ((x.pts.length : Int) ≥ 3) ↔ 3 ≤ x.pts.length := by omega
 cases mPts x.pts
 ·simp
 ·by_cases hl : x.pts.length ≤ 6
  ·by_cases k1 : x.kind = 1
   ·simp [k1, hl, c1]
   ·by_cases k2 : x.kind = 2
    ·simp [k2, hl, c2]
    ·by_cases k3 : x.kind = 3
     ·by_cases h3 : 3 ≤ x.pts.length
      ·obtain ⟨p, hp⟩ : ∃ p, x.pts[0]? = some p := ⟨x.pts[0], List.getElem?_eq_getElem (by omega)⟩
       obtain ⟨q, hq⟩ : ∃ p, x.pts[x.pts.length - 1]? = some p := ⟨x.pts[x.pts.length - 1], List.getElem?_eq_getElem (by omega)⟩
       have hw := wrap_pred (k := x.pts.length) (by omega) (by omega)
       have e0 : idx x.pts 0 = some p := by rw [← hp]; exact idx_nat (k := 0)
       have e1 : idx x.pts ((x.pts.length - 1 : Nat) : Int) = some q := by rw [← hq]; exact idx_nat
       rw [hw]
       simp [k3, hl, c3, h3, e0, e1, hp, hq]
      ·simp [k3, hl, c3, h3]
     ·simp [k1, k2, k3, hl]
  ·simp [hl]
theorem i_ptOk (p : Pt) : gf_bc9 p = some (mNum p.x && mNum p.y) := by
 unfold gf_bc9 mNum
 rw [i_within, i_within]
 simp only [Option.bind_some]
 cases (decide (-1000 ≤ p.x) && decide (p.x ≤ 1000)) <;> simp
theorem i_ShapeOk {x : Shape} (h : x.pts.length ≤ 1048576) : gf_al9 x = some (mShape x) := by
 unfold gf_al9 mShape
 have c1 : ((x.pts.length : Int) == 1) = decide (x.pts.length = 1) := by
  by_cases e : x.pts.length = 1 <;> simp [e] <;> omega
 have c2 : ((2 : Int) ≤ (x.pts.length : Int)) ↔ 2 ≤ x.pts.length := by omega
 have c3 : ((3 : Int) ≤ (x.pts.length : Int)) ↔ 3 ≤ x.pts.length := by omega
 have c6 : ((x.pts.length : Int) ≤ 6) ↔ x.pts.length ≤ 6 := by omega
 rw [if_pos (fits_small h), loopB (gl := gl_al9_1 x) (p := fun p k => mNum p.x && (mNum p.y && (decide (k = 0) || decide (x.pts[k - 1]? ≠ some p)))) (xs := x.pts) (fun _ => rfl) (fun y l k hd => ?_) x.pts 0 rfl]
 ·show _ = some (mPts x.pts && _)
  have hm : allFrom (fun (p : Pt) k => mNum p.x && (mNum p.y && (decide (k = 0) || decide (x.pts[k - 1]? ≠ some p)))) x.pts 0 = mPts x.pts := rfl
  rw [hm]
  cases mPts x.pts
  ·rfl
  ·simp only [if_true, Option.bind_some, ptb, i_within]
   by_cases k1 : x.kind = 1
   ·by_cases e : x.pts.length = 1 <;> simp [k1, c1, e]
   ·by_cases k2 : x.kind = 2
    ·by_cases e : x.pts.length ≤ 6 <;> simp [k2, c2, c6, e]
    ·by_cases k3 : x.kind = 3
     ·by_cases h3 : 3 ≤ x.pts.length
      ·obtain ⟨p, hp⟩ : ∃ p, x.pts[0]? = some p := ⟨x.pts[0], List.getElem?_eq_getElem (by omega)⟩
       obtain ⟨q, hq⟩ : ∃ p, x.pts[x.pts.length - 1]? = some p := ⟨x.pts[x.pts.length - 1], List.getElem?_eq_getElem (by omega)⟩
       have hw := wrap_pred (k := x.pts.length) (by omega) (by omega)
       have e0 : idx x.pts 0 = some p := by rw [← hp]; exact idx_nat (k := 0)
       have e1 : idx x.pts ((x.pts.length - 1 : Nat) : Int) = some q := by rw [← hq]; exact idx_nat
       rw [hw]
       by_cases e : x.pts.length ≤ 6 <;> simp [k3, c3, c6, h3, e0, e1, hp, hq, e]
      ·simp [k3, c3, c6, h3]
     ·simp [k1, k2, k3]
 ·simp only [gl_al9_1, i_ptOk, Option.bind_some, ptb, posI]
  rcases Nat.eq_zero_or_pos k with rfl | hk
  ·cases mNum y.x <;> cases mNum y.y <;> simp
  ·obtain ⟨z, hz⟩ := drop_prev hd hk
   have hl := drop_len hd
   have hw := wrap_pred hk (by omega)
   rw [hw, idx_nat, hz]
   have hk' : ¬ k = 0 := by omega
   by_cases e : z = y <;> cases mNum y.x <;> cases mNum y.y <;> simp [hk, hk', hz, e]
theorem s_l2Tags {ts : List Tag} (h : wL wTag ts ≤ 1048576) : gf_dc9 ts = some (mTags ts && decide (ts.length ≤ 4)) := by
 have hlen : ts.length ≤ 1048576 := by unfold wL at h; omega
 unfold gf_dc9 mTags
 rw [if_pos (fits_small hlen), loopB (gl := gl_dc9_1 ts) (p := fun t k => mWord t.key && (mWord t.val && (decide (k = 0) || mPrev Tag.key ts t k))) (xs := ts) (fun _ => rfl) (fun x l k hd => ?_) ts 0 rfl]
 ·rw [show decide ((ts.length : Int) ≤ 4) = decide (ts.length ≤ 4) from decI]
  exact endB
 ·have hx : x ∈ ts := List.mem_of_getElem? (drop_get hd)
  have hs := sum_mem (w := wTag) hx
  unfold wL at h
  have hk1 : x.key.size ≤ 1048576 := by have e0 : wTag x = x.key.size + (x.val.size + 0) := rfl; omega
  have hk2 : x.val.size ≤ 1048576 := by have e0 : wTag x = x.key.size + (x.val.size + 0) := rfl; omega
  simp only [gl_dc9_1, s_WordOk hk1, s_WordOk hk2, Option.bind_some, posI, slt_seq]
  rcases Nat.eq_zero_or_pos k with rfl | hk
  ·cases mWord x.key <;> cases mWord x.val <;> simp
  ·obtain ⟨z, hz⟩ := drop_prev hd hk
   have hl := drop_len hd
   have hw := wrap_pred hk (by omega)
   rw [hw, idx_nat, hz]
   have hk' : ¬ k = 0 := by omega
   cases e : slt z.key x.key <;> cases mWord x.key <;> cases mWord x.val <;> simp [hk, hk', hz, e, mPrev]
theorem s_FeatOk {f : Feat} (h : wFeat f ≤ 1048576) : gf_bu9 f = some (mFeat f) := by
 unfold wFeat wShape at h
 have h1 : f.id.size ≤ 1048576 := by omega
 have h2 : f.shape.pts.length ≤ 1048576 := by unfold wL at h; omega
 unfold gf_bu9 mFeat
 rw [s_WordOk h1, s_ShapeOk h2, s_l2Tags (by omega)]
 simp only [Option.bind_some]
 cases mWord f.id <;> cases mShape f.shape <;> simp
theorem i_FeatOk {f : Feat} (h : wFeat f ≤ 1048576) : gf_aa9 f = some (mFeat f) := by
 unfold wFeat wShape at h
 have h1 : f.id.size ≤ 1048576 := by omega
 have h2 : f.shape.pts.length ≤ 1048576 := by unfold wL at h; omega
 have h3 : wL wTag f.tags ≤ 1048576 := by omega
 have hlen : f.tags.length ≤ 1048576 := by unfold wL at h3; omega
 unfold gf_aa9 mFeat
 rw [if_pos (fits_small hlen), loopB (gl := gl_aa9_1 f) (p := fun t k => mWord t.key && (mWord t.val && (decide (k = 0) || mPrev Tag.key f.tags t k))) (xs := f.tags) (fun _ => rfl) (fun x l k hd => ?_) f.tags 0 rfl]
 ·have hm : allFrom (fun (t : Tag) k => mWord t.key && (mWord t.val && (decide (k = 0) || mPrev Tag.key f.tags t k))) f.tags 0 = mTags f.tags := rfl
  rw [hm, i_WordOk h1, i_ShapeOk h2]
  rw [show decide ((f.tags.length : Int) ≤ 4) = decide (f.tags.length ≤ 4) from decI]
  cases mTags f.tags <;> cases mWord f.id <;> cases mShape f.shape <;> simp
 ·have hx : x ∈ f.tags := List.mem_of_getElem? (drop_get hd)
  have hs := sum_mem (w := wTag) hx
  unfold wL at h3
  have hk1 : x.key.size ≤ 1048576 := by have e0 : wTag x = x.key.size + (x.val.size + 0) := rfl; omega
  have hk2 : x.val.size ≤ 1048576 := by have e0 : wTag x = x.key.size + (x.val.size + 0) := rfl; omega
  simp only [gl_aa9_1, i_WordOk hk1, i_WordOk hk2, Option.bind_some, posI]
  rcases Nat.eq_zero_or_pos k with rfl | hk
  ·cases mWord x.key <;> cases mWord x.val <;> simp
  ·obtain ⟨z, hz⟩ := drop_prev hd hk
   have hl := drop_len hd
   have hw := wrap_pred hk (by omega)
   rw [hw, idx_nat, hz]
   have hk' : ¬ k = 0 := by omega
   cases e : slt z.key x.key <;> cases mWord x.key <;> cases mWord x.val <;> simp [hk, hk', hz, e, mPrev]
theorem s_SheetOk {fs : List Feat} (h : wL wFeat fs ≤ 1048576) : gf_cc9 fs = some (mSheet fs) := by
 have hlen : fs.length ≤ 1048576 := by unfold wL at h; omega
 unfold gf_cc9 mSheet
 rw [if_pos (fits_small hlen), loopB (gl := gl_cc9_1 fs) (p := fun f k => mFeat f && (decide (k = 0) || mPrev Feat.id fs f k)) (xs := fs) (fun _ => rfl) (fun x l k hd => ?_) fs 0 rfl]
 ·rw [show decide ((fs.length : Int) ≤ 8) = decide (fs.length ≤ 8) from decI]
  exact endB
 ·have hx : x ∈ fs := List.mem_of_getElem? (drop_get hd)
  have hs := sum_mem (w := wFeat) hx
  unfold wL at h
  simp only [gl_cc9_1, s_FeatOk (f := x) (by omega), Option.bind_some, posI, slt_seq]
  rcases Nat.eq_zero_or_pos k with rfl | hk
  ·cases mFeat x <;> simp
  ·obtain ⟨z, hz⟩ := drop_prev hd hk
   have hl := drop_len hd
   have hw := wrap_pred hk (by omega)
   rw [hw, idx_nat, hz]
   have hk' : ¬ k = 0 := by omega
   cases e : slt z.id x.id <;> cases mFeat x <;> simp [hk, hk', hz, e, mPrev]
theorem i_SheetOk {fs : List Feat} (h : wL wFeat fs ≤ 1048576) : gf_an9 fs = some (mSheet fs) := by
 have hlen : fs.length ≤ 1048576 := by unfold wL at h; omega
 unfold gf_an9 mSheet
 rw [if_pos (fits_small hlen), loopB (gl := gl_an9_1 fs) (p := fun f k => mFeat f && (decide (k = 0) || mPrev Feat.id fs f k)) (xs := fs) (fun _ => rfl) (fun x l k hd => ?_) fs 0 rfl]
 ·rw [show decide ((fs.length : Int) ≤ 8) = decide (fs.length ≤ 8) from decI]
  exact endB
 ·have hx : x ∈ fs := List.mem_of_getElem? (drop_get hd)
  have hs := sum_mem (w := wFeat) hx
  unfold wL at h
  simp only [gl_an9_1, i_FeatOk (f := x) (by omega), Option.bind_some, posI, slt_seq]
  rcases Nat.eq_zero_or_pos k with rfl | hk
  ·cases mFeat x <;> simp
  ·obtain ⟨z, hz⟩ := drop_prev hd hk
   have hl := drop_len hd
   have hw := wrap_pred hk (by omega)
   rw [hw, idx_nat, hz]
   have hk' : ¬ k = 0 := by omega
   cases e : slt z.id x.id <;> cases mFeat x <;> simp [hk, hk', hz, e, mPrev]
theorem s_l1Same {a b : List Pt} (h : a.length ≤ 1048576) : gf_ct9 a b = some (decide (a = b)) := eqd_list (gl := gl_ct9_1) (ok := fun _ => True) (fun _ _ => rfl) (fun a x l k y _ hy => by
 simp only [gl_ct9_1, idx_nat, hy, Option.bind_some, ptb]
 by_cases e : x = y <;> simp [e]) (fun _ _ => rfl) h (fun _ _ => trivial)
theorem i_EqPt {a b : List Pt} (h : a.length ≤ 1048576) : gf_bj9 a b = some (decide (a = b)) := eqd_list (gl := gl_bj9_1) (ok := fun _ => True) (fun _ _ => rfl) (fun a x l k y _ hy => by
 simp only [gl_bj9_1, idx_nat, hy, Option.bind_some, ptb]
 by_cases e : x = y <;> simp [e]) (fun _ _ => rfl) h (fun _ _ => trivial)
theorem s_l2Same {a b : List Tag} (h : a.length ≤ 1048576) : gf_db9 a b = some (decide (a = b)) := eqd_list (gl := gl_db9_1) (ok := fun _ => True) (fun _ _ => rfl) (fun a x l k y _ hy => by
 simp only [gl_db9_1, idx_nat, hy, Option.bind_some, tagb]
 by_cases e : x = y <;> simp [e]) (fun _ _ => rfl) h (fun _ _ => trivial)
theorem i_EqTag {a b : List Tag} (h : a.length ≤ 1048576) : gf_bk9 a b = some (decide (a = b)) := eqd_list (gl := gl_bk9_1) (ok := fun _ => True) (fun _ _ => rfl) (fun a x l k y _ hy => by
 simp only [gl_bk9_1, idx_nat, hy, Option.bind_some, tagb]
 by_cases e : x = y <;> simp [e]) (fun _ _ => rfl) h (fun _ _ => trivial)
theorem s_l7Ints {a b : List Int} (h : a.length ≤ 1048576) : gf_dt9 a b = some (decide (a = b)) := eqd_list (gl := gl_dt9_1) (ok := fun _ => True) (fun _ _ => rfl) (fun a x l k y _ hy => by
 simp only [gl_dt9_1, idx_nat, hy, Option.bind_some]
 by_cases e : x = y <;> simp [e]) (fun _ _ => rfl) h (fun _ _ => trivial)
theorem i_EqInt {a b : List Int} (h : a.length ≤ 1048576) : gf_bl9 a b = some (decide (a = b)) := eqd_list (gl := gl_bl9_1) (ok := fun _ => True) (fun _ _ => rfl) (fun a x l k y _ hy => by
 simp only [gl_bl9_1, idx_nat, hy, Option.bind_some]
 by_cases e : x = y <;> simp [e]) (fun _ _ => rfl) h (fun _ _ => trivial)
theorem s_ShapeSame {a b : Shape} (h : a.pts.length ≤ 1048576) : gf_cb9 a b = some (decide (a = b)) := by
 unfold gf_cb9
 rw [s_l1Same h]
 obtain ⟨k, p⟩ := a; obtain ⟨k2, p2⟩ := b
 by_cases h1 : k = k2 <;> by_cases h2 : p = p2 <;> simp [h1, h2]
theorem s_FeatSame {a b : Feat} (h : wFeat a ≤ 1048576) : gf_bv9 a b = some (decide (a = b)) := by
 unfold wFeat wShape wL at h
 unfold gf_bv9
 rw [s_ShapeSame (by omega), s_l2Same (by omega), seq_dec]
 obtain ⟨i, s, t⟩ := a; obtain ⟨i2, s2, t2⟩ := b
 by_cases h1 : i = i2 <;> by_cases h2 : s = s2 <;> by_cases h3 : t = t2 <;> simp [h1, h2, h3]
theorem i_ShapeSame {a b : Shape} (h : a.pts.length ≤ 1048576) : gf_am9 a b = some (decide (a = b)) := by
 unfold gf_am9
 rw [i_EqPt h]
 obtain ⟨k, p⟩ := a; obtain ⟨k2, p2⟩ := b
 by_cases h1 : k = k2 <;> by_cases h2 : p = p2 <;> simp [h1, h2]
theorem i_FeatSame {a b : Feat} (h : wFeat a ≤ 1048576) : gf_ab9 a b = some (decide (a = b)) := by
 unfold wFeat wShape wL at h
 unfold gf_ab9
 rw [i_ShapeSame (by omega), i_EqTag (by omega), seq_dec]
 obtain ⟨i, s, t⟩ := a; obtain ⟨i2, s2, t2⟩ := b
 by_cases h1 : i = i2 <;> by_cases h2 : s = s2 <;> by_cases h3 : t = t2 <;> simp [h1, h2, h3]
theorem s_SheetSame {a b : List Feat} (h : wL wFeat a ≤ 1048576) : gf_cd9 a b = some (decide (a = b)) := eqd_list (gl := gl_cd9_1) (ok := fun x => wFeat x ≤ 1048576) (fun _ _ => rfl) (fun a x l k y hx hy => by
 simp only [gl_cd9_1, idx_nat, hy, Option.bind_some, s_FeatSame hx]
 by_cases e : x = y <;> simp [e]) (fun _ _ => rfl) (by unfold wL at h; omega) (fun x hx => by have := sum_mem (w := wFeat) hx; unfold wL at h; omega)
theorem i_EqFeat {a b : List Feat} (h : wL wFeat a ≤ 1048576) : gf_bi9 a b = some (decide (a = b)) := eqd_list (gl := gl_bi9_1) (ok := fun x => wFeat x ≤ 1048576) (fun _ _ => rfl) (fun a x l k y hx hy => by
 simp only [gl_bi9_1, idx_nat, hy, Option.bind_some, i_FeatSame hx]
 by_cases e : x = y <;> simp [e]) (fun _ _ => rfl) (by unfold wL at h; omega) (fun x hx => by have := sum_mem (w := wFeat) hx; unfold wL at h; omega)
theorem i_SheetSame {a b : List Feat} (h : wL wFeat a ≤ 1048576) : gf_ao9 a b = some (decide (a = b)) := by
 unfold gf_ao9
 rw [i_EqFeat h]
 rfl
theorem s_sameCommit {a b : Commit} (h : wCommit a ≤ 1048576) : gf_dz9 a b = some (decide (a = b)) := by
 unfold wCommit at h
 unfold gf_dz9
 rw [s_l7Ints (by unfold wL at h; omega), s_SheetSame (by omega), seq_dec]
 obtain ⟨i, s, t⟩ := a; obtain ⟨i2, s2, t2⟩ := b
 by_cases h1 : i = i2 <;> by_cases h2 : s = s2 <;> by_cases h3 : t = t2 <;> simp [h1, h2, h3]
theorem i_sameCommit {a b : Commit} (h : wCommit a ≤ 1048576) : gf_bd9 a b = some (decide (a = b)) := by
 unfold wCommit at h
 unfold gf_bd9
 rw [i_EqInt (by unfold wL at h; omega), i_SheetSame (by omega), seq_dec]
 obtain ⟨i, s, t⟩ := a; obtain ⟨i2, s2, t2⟩ := b
 by_cases h1 : i = i2 <;> by_cases h2 : s = s2 <;> by_cases h3 : t = t2 <;> simp [h1, h2, h3]
theorem s_l7Find {r : Repo} {c : Commit} (h : wL wCommit r.commits ≤ 1048576) : gf_dq9 r c = some (mFind r.commits c) := by
 unfold gf_dq9 mFind
 rw [if_pos (fits_small (by unfold wL at h; omega))]
 exact loopF (gl := gl_dq9_1 c) (ok := fun x => wCommit x ≤ 1048576) (fun _ => rfl) (fun x l k hx => by simp only [gl_dq9_1, s_sameCommit hx, Option.bind_some]) _ 0 fun x hx => by have := sum_mem (w := wCommit) hx; unfold wL at h; omega
theorem i_Repo_commit {r : Repo} {c : Commit} (h : wL wCommit r.commits ≤ 1048576) : gf_af9 r c = some (mFind r.commits c) := by
 have key : gf_bp9 r.commits c = some (mFind r.commits c) := by
  unfold gf_bp9 mFind
  rw [if_pos (fits_small (by unfold wL at h; omega))]
  exact loopF (gl := gl_bp9_1 c) (ok := fun x => wCommit x ≤ 1048576) (fun _ => rfl) (fun x l k hx => by simp only [gl_bp9_1, gf_ag9, i_sameCommit hx, Option.bind_some]) _ 0 fun x hx => by have := sum_mem (w := wCommit) hx; unfold wL at h; omega
 unfold gf_af9
 rw [key]
 rfl
theorem s_l7Head {r : Repo} {n : Str} (h : r.heads.length ≤ 1048576) : gf_ds9 r n = some (mHead r.heads n) := by
 unfold gf_ds9 mHead
 rw [if_pos (fits_small h)]
 exact loopF (gl := gl_ds9_1 n) (ok := fun _ => True) (fun _ => rfl) (fun x l k _ => by simp only [gl_ds9_1, seq_dec]) _ 0 fun _ _ => trivial
theorem i_Repo_head {r : Repo} {n : Str} (h : r.heads.length ≤ 1048576) : gf_ah9 r n = some (mHead r.heads n) := by
 have key : gf_br9 r.heads n = some (mHead r.heads n) := by
  unfold gf_br9 mHead
  rw [if_pos (fits_small h)]
  exact loopF (gl := gl_br9_1 n) (ok := fun _ => True) (fun _ => rfl) (fun x l k _ => by simp only [gl_br9_1, gf_ai9, seq_dec, Option.bind_some]) _ 0 fun _ _ => trivial
 unfold gf_ah9
 rw [key]
 rfl
theorem s_l7Up {up : List Int} {k : Nat} (h : up.length ≤ 1048576) : gf_ea9 up (k : Int) = some (mUp up k) := by
 unfold gf_ea9 mUp
 rw [if_pos (fits_small h), loopB (gl := gl_ea9_1 (k : Int)) (p := fun (x : Int) _ => decide (0 ≤ x) && decide (x < (k : Int))) (xs := up) (fun _ => rfl) (fun x l j _ => ?_) up 0 rfl]
 ·generalize allFrom (fun (x : Int) _ => decide (0 ≤ x) && decide (x < (k : Int))) up 0 = A
  cases A
  ·rfl
  ·have e1 : decide ((k : Int) > 0) = decide (0 < k) := posI
   match up with
   | [] => cases e : decide (0 < k) <;> simp [e1, e]
   | [a] => cases e : decide (0 < k) <;> simp [e1, e]
   | [a, b] =>
    have i0 : idx [a, b] 0 = some a := rfl
    have i1 : idx [a, b] 1 = some b := rfl
    by_cases e2 : a = b
    ·subst e2
     cases e : decide (0 < k) <;> simp [e1, e, i0, i1]
    ·cases e : decide (0 < k) <;> simp [e1, e, i0, i1, e2]
   | a :: b :: c :: l =>
    have e2 : ¬ ((l.length : Int) + 1 + 1 + 1 ≤ 2) := by omega
    simp [e2]
 ·have e1 : (x ≥ (k : Int)) ↔ ¬ x < (k : Int) := by omega
  have e2 : (x < 0) ↔ ¬ 0 ≤ x := by omega
  simp only [gl_ea9_1, e1, e2]
  by_cases h1 : 0 ≤ x <;> by_cases h2 : x < (k : Int) <;> simp [h1, h2]
theorem s_RepoOk {r : Repo} (h : wRepo r ≤ 1048576) : gf_bz9 r = some (mRepo r) := by
 unfold wRepo at h
 have hc : wL wCommit r.commits ≤ 1048576 := by omega
 have hh : wL wHead r.heads ≤ 1048576 := by omega
 have hcl : r.commits.length ≤ 1048576 := by unfold wL at hc; omega
 have hhl : r.heads.length ≤ 1048576 := by unfold wL at hh; omega
 have c1 : ((r.commits.length : Int) < 1) ↔ ¬ 1 ≤ r.commits.length := by omega
 have c2 : ((r.commits.length : Int) > 14) ↔ ¬ r.commits.length ≤ 14 := by omega
 have c3 : ((r.heads.length : Int) < 1) ↔ ¬ 1 ≤ r.heads.length := by omega
 have c4 : ((r.heads.length : Int) > 4) ↔ ¬ r.heads.length ≤ 4 := by omega
 have k1 : gl_bz9_1 r r.commits 0 = some (if mCommits r.commits = true then .inr () else .inl false) := by
  refine loopB (gl := gl_bz9_1 r) (p := fun c k => mUp c.up k && (mSheet c.sheet && (mWord c.note && decide (mFind r.commits c = (k : Int))))) (xs := r.commits) (fun _ => rfl) (fun x l k hd => ?_) r.commits 0 rfl
  have hx : x ∈ r.commits := List.mem_of_getElem? (drop_get hd)
  have hs := sum_mem (w := wCommit) hx
  have e0 : wCommit x = wL w0 x.up + (wL wFeat x.sheet + (x.note.size + 0)) := rfl
  have hs' : wCommit x ≤ 1048576 := by unfold wL at hc; omega
  have hu : x.up.length ≤ 1048576 := by have : wL w0 x.up = x.up.length + sumW w0 x.up := rfl; omega
  simp only [gl_bz9_1, s_l7Up hu, s_SheetOk (fs := x.sheet) (by omega), s_WordOk (s := x.note) (by omega), s_l7Find hc, Option.bind_some]
  by_cases e : mFind r.commits x = (k : Int) <;> cases mUp x.up k <;> cases mSheet x.sheet <;> cases mWord x.note <;> simp [e]
 have k2 : gl_bz9_2 r r.heads 0 = some (if mHeads r.commits.length r.heads = true then .inr () else .inl false) := by
  refine loopB (gl := gl_bz9_2 r) (p := fun h k => mWord h.name && (decide (mHead r.heads h.name = (k : Int)) && (decide (0 ≤ h.at_) && decide (h.at_ < (r.commits.length : Int))))) (xs := r.heads) (fun _ => rfl) (fun x l k hd => ?_) r.heads 0 rfl
  have hx : x ∈ r.heads := List.mem_of_getElem? (drop_get hd)
  have hs := sum_mem (w := wHead) hx
  have e0 : wHead x = x.name.size + 0 := rfl
  have hs' : x.name.size ≤ 1048576 := by unfold wL at hh; omega
  have d1 : (x.at_ < 0) ↔ ¬ 0 ≤ x.at_ := by omega
  have d2 : (x.at_ ≥ (r.commits.length : Int)) ↔ ¬ x.at_ < (r.commits.length : Int) := by omega
  simp only [gl_bz9_2, s_WordOk hs', s_l7Head hhl, Option.bind_some, d1, d2]
  by_cases e : mHead r.heads x.name = (k : Int) <;> by_cases e1 : 0 ≤ x.at_ <;> by_cases e2 : x.at_ < (r.commits.length : Int) <;> cases mWord x.name <;> simp [e, e1, e2]
 unfold gf_bz9 mRepo
 rw [k1, k2, if_pos (fits_small hcl), if_pos (fits_small hhl)]
 simp only [c1, c2, c3, c4]
 by_cases h1 : 1 ≤ r.commits.length <;> by_cases h2 : r.commits.length ≤ 14 <;> by_cases h3 : 1 ≤ r.heads.length <;> by_cases h4 : r.heads.length ≤ 4 <;> cases mCommits r.commits <;> cases mHeads r.commits.length r.heads <;> simp [h1, h2, h3, h4]
theorem i_version {r : Repo} {k : Int} (h : r.commits.length ≤ 1048576) : gf_ak9 r k = some (decide (0 ≤ k) && decide (k < (r.commits.length : Int))) := by
 unfold gf_ak9
 rw [wrap_id (by omega) (by omega), i_within]
 have e : (k ≤ (r.commits.length : Int) - 1) ↔ k < (r.commits.length : Int) := by omega
 simp [e]
theorem i_Contains0 (x : Int) : gf_bg9 [] x = some false := rfl
theorem i_Contains1 (a x : Int) : gf_bg9 [a] x = some (decide (x = a)) := by
 have hf : fits 1 = true := fits_small (by omega)
 by_cases e : x = a
 ·subst e
  simp [gf_bg9, gf_bs9, hf, gl_bs9_1]
 ·simp [gf_bg9, gf_bs9, hf, gl_bs9_1, e]
theorem i_up5 {c : Commit} {k : Nat} (hk : k ≤ 1048576) (h : c.up.length ≤ 2) : gl_ad9_5 k c c.up 0 = some (if (allFrom (fun (x : Int) _ => decide (0 ≤ x) && decide (x < (k : Int))) c.up 0 && decide (c.up[0]? = none ∨ c.up[0]? ≠ c.up[1]?)) = true then .inr () else .inl false) := by
 have hw : IntKind.i64.wrap ((k : Int) - 1) = (k : Int) - 1 := wrap_id (by omega) (by omega)
 have hi : ∀ x : Int, (x ≤ (k : Int) - 1) ↔ x < (k : Int) := fun x => by omega
 obtain ⟨up, sh, nt⟩ := c
 match up, h with
 | [], _ => rfl
 | [a], _ =>
  have s0 : slc [a] 0 ((0 : Nat) : Int) = some [] := by simp [slc]
  simp only [gl_ad9_5, i_within, hw, hi, Option.bind_some, s0, i_Contains0, allFrom]
  by_cases h1 : 0 ≤ a <;> by_cases h2 : a < (k : Int) <;> simp [h1, h2]
 | [a, b], _ =>
  have s0 : slc [a, b] 0 ((0 : Nat) : Int) = some [] := by simp [slc]
  have s1 : slc [a, b] 0 ((0 + 1 : Nat) : Int) = some [a] := by simp [slc]
  simp only [gl_ad9_5, i_within, hw, hi, Option.bind_some, s0, s1, i_Contains0, i_Contains1, allFrom]
  by_cases e : b = a
  ·subst e
   by_cases h1 : 0 ≤ b <;> by_cases h2 : b < (k : Int) <;> simp [h1, h2]
  ·have e' : ¬ a = b := fun h => e h.symm
   by_cases h1 : 0 ≤ a <;> by_cases h2 : a < (k : Int) <;> by_cases h3 : 0 ≤ b <;> by_cases h4 : b < (k : Int) <;> simp [h1, h2, h3, h4, e, e']
 | _ :: _ :: _ :: _, h => simp at h
theorem i_RepoOk {r : Repo} (h : wRepo r ≤ 1048576) : gf_ad9 r = some (mRepo r) := by
 unfold wRepo at h
 have hc : wL wCommit r.commits ≤ 1048576 := by omega
 have hh : wL wHead r.heads ≤ 1048576 := by omega
 have hcl : r.commits.length ≤ 1048576 := by unfold wL at hc; omega
 have hhl : r.heads.length ≤ 1048576 := by unfold wL at hh; omega
 have c1 : ((1 : Int) ≤ r.commits.length) ↔ 1 ≤ r.commits.length := by omega
 have c2 : ((r.commits.length : Int) ≤ 14) ↔ r.commits.length ≤ 14 := by omega
 have c3 : ((1 : Int) ≤ r.heads.length) ↔ 1 ≤ r.heads.length := by omega
 have c4 : ((r.heads.length : Int) ≤ 4) ↔ r.heads.length ≤ 4 := by omega
 have k1 : gl_ad9_4 r r.commits 0 = some (if mCommits r.commits = true then .inr () else .inl false) := by
  refine loopB (gl := gl_ad9_4 r) (p := fun c k => mUp c.up k && (mSheet c.sheet && (mWord c.note && decide (mFind r.commits c = (k : Int))))) (xs := r.commits) (fun _ => rfl) (fun x l k hd => ?_) r.commits 0 rfl
  have hx : x ∈ r.commits := List.mem_of_getElem? (drop_get hd)
  have hkl := drop_len hd
  have hs := sum_mem (w := wCommit) hx
  have e0 : wCommit x = wL w0 x.up + (wL wFeat x.sheet + (x.note.size + 0)) := rfl
  have hs' : wCommit x ≤ 1048576 := by unfold wL at hc; omega
  have hu : x.up.length ≤ 1048576 := by have : wL w0 x.up = x.up.length + sumW w0 x.up := rfl; omega
  have d1 : (((k : Int) == 0) == ((x.up.length : Int) == 0)) = (decide (0 < x.up.length) == decide (0 < k)) := by
   rw [zI, zI, posD, posD]
   cases decide (k = 0) <;> cases decide (x.up.length = 0) <;> rfl
  have d2 : ((x.up.length : Int) > 2) ↔ ¬ x.up.length ≤ 2 := by omega
  obtain ⟨B, hB⟩ : ∃ B, (decide (0 < x.up.length) == decide (0 < k)) = B := ⟨_, rfl⟩
  rw [hB] at d1
  simp only [gl_ad9_4, i_SheetOk (fs := x.sheet) (by omega), i_WordOk (s := x.note) (by omega), i_Repo_commit hc, Option.bind_some, d1, d2, mUp, hB]
  clear d1 hB
  by_cases b : x.up.length ≤ 2
  ·rw [i_up5 (by omega) b, if_pos (fits_small hu)]
   obtain ⟨D, hD⟩ : ∃ D, (decide (x.up[0]? = none ∨ x.up[0]? ≠ x.up[1]?)) = D := ⟨_, rfl⟩
   rw [hD]
   clear hD
   by_cases e : mFind r.commits x = (k : Int) <;> cases B <;> cases mSheet x.sheet <;> cases mWord x.note <;> cases allFrom (fun (x : Int) _ => decide (0 ≤ x) && decide (x < (k : Int))) x.up 0 <;> cases D <;> simp [e, b]
  ·by_cases e : mFind r.commits x = (k : Int) <;> cases B <;> cases mSheet x.sheet <;> cases mWord x.note <;> simp [e, b]
 have k2 : gl_ad9_6 r r.heads 0 = some (if mHeads r.commits.length r.heads = true then .inr () else .inl false) := by
  refine loopB (gl := gl_ad9_6 r) (p := fun h k => mWord h.name && (decide (mHead r.heads h.name = (k : Int)) && (decide (0 ≤ h.at_) && decide (h.at_ < (r.commits.length : Int))))) (xs := r.heads) (fun _ => rfl) (fun x l k hd => ?_) r.heads 0 rfl
  have hx : x ∈ r.heads := List.mem_of_getElem? (drop_get hd)
  have hs := sum_mem (w := wHead) hx
  have e0 : wHead x = x.name.size + 0 := rfl
  have hs' : x.name.size ≤ 1048576 := by unfold wL at hh; omega
  simp only [gl_ad9_6, i_WordOk hs', i_Repo_head hhl, i_version hcl, Option.bind_some]
  by_cases e : mHead r.heads x.name = (k : Int) <;> by_cases e1 : 0 ≤ x.at_ <;> by_cases e2 : x.at_ < (r.commits.length : Int) <;> cases mWord x.name <;> simp [e, e1, e2]
 unfold gf_ad9 mRepo
 rw [k1, k2, if_pos (fits_small hcl), if_pos (fits_small hhl), i_within, i_within]
 simp only [c1, c2, c3, c4, Option.bind_some]
 by_cases h1 : 1 ≤ r.commits.length <;> by_cases h2 : r.commits.length ≤ 14 <;> by_cases h3 : 1 ≤ r.heads.length <;> by_cases h4 : r.heads.length ≤ 4 <;> cases mCommits r.commits <;> cases mHeads r.commits.length r.heads <;> simp [h1, h2, h3, h4]
theorem s_l10Same_loop {a b : Repo} {x y : Commit} {rec : Repo → Int → Repo → Int → Option Bool} {f : Nat → Nat → Bool} (hrec : ∀ u ∈ x.up, ∀ v ∈ y.up, rec a u b v = some (f u.toNat v.toNat)) (hl : x.up.length = y.up.length) : ∀ (l : List Int) (k : Nat), x.up.drop k = l → gl_ch9_1 y rec a b l k = some (if ((l.zip (y.up.drop k)).all fun p => f p.1.toNat p.2.toNat) = true then .inr () else .inl false)
 | [], k, h => rfl
 | u :: l, k, h => by
  have hk := drop_len h
  obtain ⟨v, hv⟩ := getI (xs := y.up) (i := k) (by omega)
  have hd : y.up.drop k = v :: y.up.drop (k + 1) := by
   rw [List.drop_eq_getElem_cons (by omega), (List.getElem?_eq_some_iff.1 hv).2]
  simp only [gl_ch9_1, idx_nat, hv, Option.bind_some, hrec u (List.mem_of_getElem? (drop_get h)) v (List.mem_of_getElem? hv), hd, List.zip_cons_cons, List.all_cons]
  have ih := s_l10Same_loop hrec hl l (k + 1) (drop_next h)
  cases f u.toNat v.toNat
  ·rfl
  ·exact ih
theorem s_l10Same {a b : Repo} (ha : Hist a.commits) (hb : Hist b.commits) (hw : wRepo a ≤ 1048576) : ∀ (n i k : Nat), i < n → i < a.commits.length → k < b.commits.length → gf_ch9 n a (i : Int) b (k : Int) = some (sameF a.commits b.commits n i k)
 | 0, _, _, h, _, _ => by omega
 | n + 1, i, k, h, hi, hk => by
  obtain ⟨x, hx⟩ := getI hi
  obtain ⟨y, hy⟩ := getI hk
  have hwx : wCommit x ≤ 1048576 := by
   have := sum_mem (w := wCommit) (List.mem_of_getElem? hx)
   unfold wRepo wL at hw
   omega
  have hws : wL wFeat x.sheet ≤ 1048576 := by unfold wCommit at hwx; omega
  have hwu : x.up.length ≤ 1048576 := by unfold wCommit at hwx; unfold wL at hwx; omega
  show gb_ch9 (gf_ch9 n) a i b k = _
  unfold gb_ch9
  rw [sameF]
  simp only [idx_nat, hx, hy, Option.bind_some, seq_dec, s_SheetSame hws]
  by_cases e1 : x.note = y.note
  ·by_cases e2 : x.up.length = y.up.length
   ·by_cases e3 : x.sheet = y.sheet
    ·rw [s_l10Same_loop (f := sameF a.commits b.commits n) (fun u hu v hv => ?_) e2 x.up 0 rfl]
     ·simp only [e1, e2, e3, List.drop_zero]
      cases (x.up.zip y.up).all fun p => sameF a.commits b.commits n p.1.toNat p.2.toNat <;> simp [fits_small (n := y.up.length) (by omega)]
     ·have h1 := ha.lt i x hx u hu
      have h2 := hb.lt k y hy v hv
      have := s_l10Same ha hb hw n u.toNat v.toNat (by omega) (by omega) (by omega)
      rwa [Int.toNat_of_nonneg h1.1, Int.toNat_of_nonneg h2.1] at this
    ·simp [e1, e2, e3]
   ·have e2' : ¬ ((x.up.length : Int) = (y.up.length : Int)) := by omega
    simp [e1, e2, e2']
  ·simp [e1]
theorem s_l10Same' {a b : Repo} (ha : mRepo a = true) (hb : mRepo b = true) (hw : wRepo a ≤ 1048576) {i k : Nat} (hi : i < a.commits.length) (hk : k < b.commits.length) : gf_ch9 rounds a (i : Int) b (k : Int) = some (mSame a.commits b.commits i k) := by
 have hl := (repo_len ha).1.2
 have hr : (14 : Nat) < rounds := by decide
 rw [s_l10Same (repo_hist ha) (repo_hist hb) hw rounds i k (by omega) hi hk]
 unfold mSame
 rw [sameF_stable (repo_hist ha) rounds (i + 1) i k (by omega) (by omega)]
theorem set_self {α : Type} {T : List α} {i : Nat} {x : α} (h : T[i]? = some x) : T.set i x = T := by
 refine List.ext_getElem? fun j => ?_
 by_cases e : i = j
 ·subst e
  rw [List.getElem?_set_self (get_lt h), h]
 ·rw [List.getElem?_set_ne e]
theorem i_alike_51f {T : List (List Bool)} {y : Commit} {c0 : Bool} : ∀ (l : List Int) (k : Nat), gl_av9_51 T y l k false c0 = some (false, c0)
 | [], k => rfl
 | _ :: _, k => rfl
theorem i_alike_51 {T : List (List Bool)} {x y : Commit} {f : Nat → Nat → Bool} {c0 : Bool} (hT : ∀ u ∈ x.up, ∀ v ∈ y.up, 0 ≤ u ∧ 0 ≤ v ∧ ∃ R, T[u.toNat]? = some R ∧ R[v.toNat]? = some (f u.toNat v.toNat)) (hl : x.up.length = y.up.length) : ∀ (l : List Int) (k : Nat) (c : Bool), x.up.drop k = l → gl_av9_51 T y l k c c0 = some (c && (l.zip (y.up.drop k)).all fun p => f p.1.toNat p.2.toNat, c0)
 | [], k, c, h => by cases c <;> rfl
 | u :: l, k, c, h => by
  have hk := drop_len h
  obtain ⟨v, hv⟩ := getI (xs := y.up) (i := k) (by omega)
  have hd : y.up.drop k = v :: y.up.drop (k + 1) := by
   rw [List.drop_eq_getElem_cons (by omega), (List.getElem?_eq_some_iff.1 hv).2]
  obtain ⟨h1, h2, R, h3, h4⟩ := hT u (List.mem_of_getElem? (drop_get h)) v (List.mem_of_getElem? hv)
  cases c
  ·exact i_alike_51f _ _
  ·simp only [gl_av9_51, if_true, idx_int h1, h3, idx_nat, hv, idx_int h2, h4, Option.bind_some, hd, List.zip_cons_cons, List.all_cons, Bool.true_and]
   exact i_alike_51 hT hl l (k + 1) _ (drop_next h)
theorem i_alike_50 {a b : Repo} (ha : Hist a.commits) (hb : Hist b.commits) (hwa : wRepo a ≤ 1048576) {i : Nat} {x : Commit} (hx : a.commits[i]? = some x) : ∀ (l : List Commit) (k : Nat) (T : List (List Bool)), b.commits.drop k = l → k + l.length = b.commits.length → T[i]? = some ((List.range k).map (mSame a.commits b.commits i) ++ List.replicate l.length false) → (∀ j, j < i → T[j]? = some ((List.range b.commits.length).map (mSame a.commits b.commits j))) → gl_av9_50 x i l k T = some (T.set i ((List.range b.commits.length).map (mSame a.commits b.commits i)))
 | [], k, T, h, hk, hT, hp => by
  simp only [List.length_nil, Nat.add_zero] at hk
  subst hk
  simp only [List.length_nil, List.replicate_zero, List.append_nil] at hT
  rw [set_self hT]
  rfl
 | y :: l, k, T, h, hk, hT, hp => by
  simp only [List.length_cons] at hk hT
  have hil := get_lt hT
  have hy := drop_get h
  have hwx : wCommit x ≤ 1048576 := by
   have := sum_mem (w := wCommit) (List.mem_of_getElem? hx)
   unfold wRepo wL at hwa
   omega
  have hws : wL wFeat x.sheet ≤ 1048576 := by unfold wCommit at hwx; omega
  have hwu : x.up.length ≤ 1048576 := by unfold wCommit at hwx; unfold wL at hwx; omega
  have hrow : ∀ w, ((List.range k).map (mSame a.commits b.commits i) ++ List.replicate (l.length + 1) false)[k]? = some false ∧ ((List.range k).map (mSame a.commits b.commits i) ++ List.replicate (l.length + 1) false).set k w = (List.range k).map (mSame a.commits b.commits i) ++ w :: List.replicate l.length false := fun w => by
   constructor
   ·rw [List.getElem?_append_right (by simp)]
    simp
   ·rw [List.set_append_right _ _ (by simp)]
    simp [List.replicate_succ]
  have next : ∀ w, w = mSame a.commits b.commits i k → gl_av9_50 x i l (k + 1) (T.set i (((List.range k).map (mSame a.commits b.commits i) ++ List.replicate (l.length + 1) false).set k w)) = some (T.set i ((List.range b.commits.length).map (mSame a.commits b.commits i))) := fun w hw => by
   rw [i_alike_50 ha hb hwa hx l (k + 1) _ (drop_next h) (by omega) ?_ fun j hj => ?_, List.set_set]
   ·rw [List.getElem?_set_self hil, (hrow w).2, List.range_succ, List.map_append, hw]
    simp
   ·rw [List.getElem?_set_ne (by omega)]
    exact hp j hj
  have hms := mSame_eq ha (b := b.commits) hx hy
  simp only [gl_av9_50, seq_dec, i_SheetSame hws, Option.bind_some, idx_nat, hT, (hrow false).1, Int.toNat_natCast]
  by_cases e1 : x.note = y.note
  ·by_cases e2 : x.sheet = y.sheet
   ·simp only [e1, decide_true, if_true]
    rw [if_pos (by simp [e2]), if_pos (fits_small hwu)]
    by_cases e3 : x.up.length = y.up.length
    ·have e3' : ((x.up.length : Int) == (y.up.length : Int)) = true := by simp [e3]
     rw [e3', i_alike_51 (f := mSame a.commits b.commits) (fun u hu v hv => ?_) e3 x.up 0 true rfl]
     ·simp only [Option.bind_some, Bool.true_and, List.drop_zero]
      exact next _ (by rw [hms]; simp [e1, e2, e3])
     ·have h1 := ha.lt i x hx u hu
      have h2 := hb.lt k y hy v hv
      refine ⟨h1.1, h2.1, _, hp u.toNat (by omega), ?_⟩
      have := drop_len h
      rw [List.getElem?_map, List.getElem?_range (by omega)]
      rfl
    ·have e3' : ((x.up.length : Int) == (y.up.length : Int)) = false := by simp; omega
     rw [e3', i_alike_51f]
     exact next _ (by rw [hms]; simp [e3])
   ·simp only [e1, e2, decide_true, decide_false, if_true]
    rw [if_neg (by decide)]
    have : gl_av9_52 x rounds = some () := by
     show gl_av9_52 x (4194303 + 1) = _
     simp only [gl_av9_52]
     split <;> rfl
    rw [this]
    exact next _ (by rw [hms]; simp [e2])
  ·simp only [e1, decide_false]
   rw [if_neg (by decide)]
   have : gl_av9_53 x rounds = some () := by
    show gl_av9_53 x (4194303 + 1) = _
    simp only [gl_av9_53]
    split <;> rfl
   rw [this]
   exact next _ (by rw [hms]; simp [e1])
theorem i_alike_40 {a b : Repo} (ha : Hist a.commits) (hb : Hist b.commits) (hwa : wRepo a ≤ 1048576) (hwb : b.commits.length ≤ 1048576) : ∀ (l : List Commit) (i : Nat) (T : List (List Bool)), a.commits.drop i = l → i + l.length = a.commits.length → T.length = a.commits.length → (∀ j, j < i → T[j]? = some ((List.range b.commits.length).map (mSame a.commits b.commits j))) → gl_av9_40 b l i T = some ((List.range a.commits.length).map fun i => (List.range b.commits.length).map (mSame a.commits b.commits i))
 | [], i, T, h, hi, hT, hp => by
  simp only [List.length_nil, Nat.add_zero] at hi
  subst hi
  simp only [gl_av9_40, Option.some.injEq]
  refine List.ext_getElem? fun j => ?_
  rcases Nat.lt_or_ge j a.commits.length with hj | hj
  ·rw [hp j hj, List.getElem?_map, List.getElem?_range hj]
   rfl
  ·rw [List.getElem?_eq_none (by omega), List.getElem?_eq_none (by simpa using hj)]
 | x :: l, i, T, h, hi, hT, hp => by
  have hx := drop_get h
  have hil := drop_len h
  obtain ⟨r0, hr0⟩ := getI (xs := T) (i := i) (by omega)
  simp only [List.length_cons] at hi
  simp only [gl_av9_40, idx_nat, hr0, Option.bind_some, Int.toNat_natCast]
  rw [if_pos (by simp [fits_small hwb]), if_pos (fits_small hwb)]
  rw [i_alike_50 ha hb hwa hx b.commits 0 _ rfl (by omega) (by rw [List.getElem?_set_self (by omega)]; simp) (fun j hj => by rw [List.getElem?_set_ne (by omega)]; exact hp j hj), List.set_set]
  simp only [Option.bind_some]
  refine i_alike_40 ha hb hwa hwb l (i + 1) _ (drop_next h) (by omega) (by simpa using hT) fun j hj => ?_
  rcases Nat.eq_or_lt_of_le (Nat.le_of_lt_succ hj) with rfl | hj
  ·rw [List.getElem?_set_self (by omega)]
  ·rw [List.getElem?_set_ne (by omega)]
   exact hp j hj
theorem i_alike {a b : Repo} (ha : mRepo a = true) (hb : mRepo b = true) (hwa : wRepo a ≤ 1048576) : gf_av9 a b = some ((List.range a.commits.length).map fun i => (List.range b.commits.length).map (mSame a.commits b.commits i)) := by
 have h1 := (repo_len ha).1.2
 have h2 := (repo_len hb).1.2
 unfold gf_av9
 rw [if_pos (by simp [fits_small (n := a.commits.length) (by omega)]), if_pos (fits_small (by omega)), i_alike_40 (repo_hist ha) (repo_hist hb) hwa (by omega) a.commits 0 _ rfl (by omega) (by simp) (fun j hj => by omega)]
 rfl
theorem i_SyncSame {a b : Repo} {i k : Int} (hwa : wRepo a ≤ 1048576) (hwb : wRepo b ≤ 1048576) : gf_as9 a i b k = some (mRepo a && (decide (0 ≤ i) && decide (i < (a.commits.length : Int))) && (mRepo b && (decide (0 ≤ k) && decide (k < (b.commits.length : Int)))) && mSame a.commits b.commits i.toNat k.toNat) := by
 have hla : a.commits.length ≤ 1048576 := by unfold wRepo wL at hwa; omega
 have hlb : b.commits.length ≤ 1048576 := by unfold wRepo wL at hwb; omega
 unfold gf_as9
 rw [i_RepoOk hwa, i_RepoOk hwb, i_version hla, i_version hlb]
 by_cases h1 : mRepo a = true
 ·by_cases h2 : mRepo b = true
  ·by_cases h3 : 0 ≤ i ∧ i < (a.commits.length : Int)
   ·by_cases h4 : 0 ≤ k ∧ k < (b.commits.length : Int)
    ·simp only [i_alike h1 h2 hwa, h1, h2, h3, h4, Option.bind_some, decide_true, Bool.true_and, if_true, idx_int h3.1, idx_int h4.1]
     rw [List.getElem?_map, List.getElem?_range (by omega)]
     simp only [Option.map_some, Option.bind_some]
     rw [List.getElem?_map, List.getElem?_range (by omega)]
     rfl
    ·have h4' : (decide (0 ≤ k) && decide (k < (b.commits.length : Int))) = false := by simp; omega
     simp [h1, h2, h3, h4']
   ·have h3' : (decide (0 ≤ i) && decide (i < (a.commits.length : Int))) = false := by simp; omega
    simp [h1, h2, h3']
  ·simp [h1, h2]
 ·simp [h1]
theorem fst_loop {α : Type} {gl : List α → Nat → Option (Int ⊕ Unit)} {p : Nat → Bool} {xs : List α} (h0 : ∀ k, gl [] k = some (.inr ())) (h1 : ∀ x l k, xs.drop k = x :: l → gl (x :: l) k = if p k = true then some (.inl (k : Int)) else gl l (k + 1)) : ∀ (l : List α) (k : Nat), xs.drop k = l → ((gl l k).bind fun q => match q with | .inl r => some r | .inr _ => some (-1)) = some (fstN p l.length k)
 | [], k, h => by rw [h0]; rfl
 | x :: l, k, h => by
  rw [h1 x l k h]
  have e : fstN p (x :: l).length k = if p k = true then (k : Int) else fstN p l.length (k + 1) := rfl
  rw [e]
  by_cases hp : p k = true
  ·rw [if_pos hp, if_pos hp]
   rfl
  ·rw [if_neg hp, if_neg hp]
   exact fst_loop h0 h1 l (k + 1) (drop_next h)
theorem s_l10Find {a b : Repo} (ha : mRepo a = true) (hb : mRepo b = true) (hw : wRepo a ≤ 1048576) {k : Nat} (hk : k < b.commits.length) : gf_cg9 a b (k : Int) = some (mSyncFind a.commits b.commits k) := by
 have hl : a.commits.length ≤ 1048576 := by unfold wRepo wL at hw; omega
 unfold gf_cg9 mSyncFind
 rw [if_pos (fits_small hl)]
 exact fst_loop (gl := gl_cg9_1 a b (k : Int)) (xs := a.commits) (fun _ => rfl) (fun x l i h => by
  simp only [gl_cg9_1, s_l10Same' ha hb hw (drop_len h) hk, Option.bind_some]) a.commits 0 rfl
theorem i_SyncFind {a b : Repo} {k : Int} (hwa : wRepo a ≤ 1048576) (hwb : wRepo b ≤ 1048576) : gf_ap9 a b k = some (if (mRepo a && (mRepo b && (decide (0 ≤ k) && decide (k < (b.commits.length : Int))))) = true then mSyncFind a.commits b.commits k.toNat else -1) := by
 have hlb : b.commits.length ≤ 1048576 := by unfold wRepo wL at hwb; omega
 have hla : a.commits.length ≤ 1048576 := by unfold wRepo wL at hwa; omega
 unfold gf_ap9
 rw [i_RepoOk hwa, i_RepoOk hwb, i_version hlb]
 by_cases h1 : mRepo a = true
 ·by_cases h2 : mRepo b = true
  ·by_cases h4 : 0 ≤ k ∧ k < (b.commits.length : Int)
   ·have key : gf_bn9 ((List.range a.commits.length).map fun i => (List.range b.commits.length).map (mSame a.commits b.commits i)) k = some (mSyncFind a.commits b.commits k.toNat) := by
     unfold gf_bn9 mSyncFind
     rw [if_pos (fits_small (by simpa using hla))]
     have := fst_loop (gl := gl_bn9_1 k) (p := fun i => mSame a.commits b.commits i k.toNat) (xs := (List.range a.commits.length).map fun i => (List.range b.commits.length).map (mSame a.commits b.commits i)) (fun _ => rfl) (fun x l i h => by
      have hx := drop_get h
      have hi := get_lt hx
      simp only [List.length_map, List.length_range] at hi
      rw [List.getElem?_map, List.getElem?_range hi] at hx
      simp only [Option.map_some, Option.some.injEq] at hx
      subst hx
      simp only [gl_bn9_1, gf_aq9, idx_int h4.1]
      rw [List.getElem?_map, List.getElem?_range (by omega)]
      rfl) _ 0 rfl
     rw [List.drop_zero, List.length_map, List.length_range] at this
     exact this
    simp [i_alike h1 h2 hwa, h1, h2, h4, key]
   ·have h4' : (decide (0 ≤ k) && decide (k < (b.commits.length : Int))) = false := by simp; omega
    simp [h1, h2, h4']
  ·simp [h1, h2]
 ·simp [h1]
theorem rep_get {n j : Nat} : (List.replicate n false)[j]? ≠ some true := by
 rw [List.getElem?_replicate]
 split <;> simp
theorem marks_init {cs : List Commit} {F : List Nat} (hF : ∀ f ∈ F, f < cs.length) : Marks cs F cs.length (setAll (List.replicate cs.length false) (F.map fun (f : Nat) => (f : Int))) where
 len := by rw [setAll_len, List.length_replicate]
 snd := fun j hj => by
  rcases setAll_get.1 hj with hj | ⟨_, u, hu, rfl⟩
  ·exact absurd hj rep_get
  ·obtain ⟨f, hf, rfl⟩ := List.mem_map.1 hu
   exact ⟨f, hf, .refl f⟩
 frm := fun f hf => setAll_get.2 (.inr ⟨by rw [List.length_replicate]; exact hF f hf, f, List.mem_map.2 ⟨f, hf, rfl⟩, rfl⟩)
 cl := fun j x u hj hb hx hu => by
  have := get_lt hx
  omega
theorem s_l7Marks_1 : ∀ (l : List Int) (k : Nat) (m : List Bool), (∀ u ∈ l, 0 ≤ u ∧ u < (m.length : Int)) → gl_du9_1 l k m = some (setAll m l)
 | [], k, m, h => rfl
 | u :: l, k, m, h => by
  have hu := h u (by simp)
  obtain ⟨b, hb⟩ := getI (xs := m) (i := u.toNat) (by omega)
  simp only [gl_du9_1, idx_int hu.1, hb, Option.bind_some]
  exact s_l7Marks_1 l (k + 1) _ fun v hv => by
   rw [List.length_set]
   exact h v (by simp [hv])
theorem s_l7Marks_6 {r : Repo} {v : Nat} {x : Commit} (hx : r.commits[v]? = some x) (hu : ∀ u ∈ x.up, 0 ≤ u ∧ u < (v : Int)) (h2 : x.up.length ≤ 2) : ∀ (l : List Int) (j n : Nat) (m : List Bool), x.up.drop j = l → l.length < n → m[v]? = some true → gl_du9_6 r (v : Int) n (j : Int) m = some (setAll m l)
 | _, _, 0, _, _, h, _ => by omega
 | [], j, n + 1, m, h, hn, hm => by
  simp only [gl_du9_6, idx_nat, hx, Option.bind_some, drop_ge h]
  rfl
 | u :: l, j, n + 1, m, h, hn, hm => by
  have hue := drop_get h
  have hul := hu u (List.mem_of_getElem? hue)
  have hvl := get_lt hm
  obtain ⟨b, hb⟩ := getI (xs := m) (i := u.toNat) (by omega)
  have hjl := drop_len h
  have hw : IntKind.i64.wrap ((j : Int) + 1) = ((j + 1 : Nat) : Int) := by rw [wrap_id (by omega) (by omega)]; omega
  simp only [gl_du9_6, idx_nat, hx, Option.bind_some, drop_lt h, hm, hue, idx_int hul.1, hb, if_true, hw]
  exact s_l7Marks_6 hx hu h2 l (j + 1) n _ (drop_next h) (by simp at hn; omega) (by rw [List.getElem?_set_ne (by omega)]; exact hm)
theorem s_l7Marks_6f {r : Repo} {v n : Nat} {x : Commit} {m : List Bool} (hx : r.commits[v]? = some x) (hm : m[v]? = some false) : gl_du9_6 r (v : Int) (n + 1) 0 m = some m := by
 simp only [gl_du9_6, idx_nat, hx, Option.bind_some, hm]
 split
 ·rfl
 ·rfl
theorem s_l7Marks_5 {r : Repo} {F : List Nat} (hc : Hist r.commits) : ∀ (k n : Nat) (m : List Bool), k < n → k ≤ r.commits.length → k ≤ 1048576 → Marks r.commits F k m → gl_du9_5 r n ((k : Int) - 1) m = some (mark r.commits F)
 | _, 0, _, h, _, _, _ => by omega
 | 0, n + 1, m, _, _, _, h => by
  rw [h.fin]
  rfl
 | k + 1, n + 1, m, hn, hk, hb, h => by
  obtain ⟨x, hx⟩ := getI (xs := r.commits) (i := k) (by omega)
  obtain ⟨b, hb2⟩ := getI (xs := m) (i := k) (by rw [h.len]; omega)
  have e1 : (((k + 1 : Nat) : Int) - 1) = (k : Int) := by omega
  have hw : IntKind.i64.wrap ((k : Int) - 1) = (k : Int) - 1 := wrap_id (by omega) (by omega)
  have hge : decide ((k : Int) ≥ 0) = true := decide_eq_true (by omega)
  have hr : rounds = 4194303 + 1 := rfl
  rw [e1]
  simp only [gl_du9_5, hge, if_true, hw]
  cases b
  ·rw [hr, s_l7Marks_6f hx hb2]
   exact s_l7Marks_5 hc k n m (by omega) (by omega) (by omega) (h.skip (by rw [hb2]; simp))
  ·have h2 := hc.two x (List.mem_of_getElem? hx)
   have := s_l7Marks_6 hx (hc.lt k x hx) h2 x.up 0 rounds m rfl (by rw [hr]; omega) hb2
   simp only [Int.ofNat_zero, Int.natCast_zero] at this
   rw [this]
   exact s_l7Marks_5 hc k n _ (by omega) (by omega) (by omega) (h.step hc hb2 hx)
theorem s_l7Marks {r : Repo} {F : List Nat} (hc : Hist r.commits) (hl : r.commits.length ≤ 1048576) (hF : ∀ f ∈ F, f < r.commits.length) (hFl : F.length ≤ 1048576) : gf_du9 r (F.map fun (f : Nat) => (f : Int)) = some (mark r.commits F) := by
 have hr : rounds = 4194303 + 1 := rfl
 unfold gf_du9
 rw [if_pos (by simp [fits_small hl]), if_pos (fits_small (by simpa using hFl)), Int.toNat_natCast, s_l7Marks_1 _ _ _ (fun u hu => by
  obtain ⟨f, hf, rfl⟩ := List.mem_map.1 hu
  have := hF f hf
  rw [List.length_replicate]
  omega), wrap_id (by omega) (by omega)]
 simp only [Option.bind_some]
 rw [s_l7Marks_5 hc r.commits.length rounds _ (by rw [hr]; omega) (Nat.le_refl _) hl (marks_init hF)]
 rfl
theorem s_l7Marks1 {r : Repo} {k : Nat} (hc : Hist r.commits) (hl : r.commits.length ≤ 1048576) (hk : k < r.commits.length) : gf_du9 r [(k : Int)] = some (mark r.commits [k]) := by
 have := s_l7Marks (r := r) (F := [k]) hc hl (by simpa using hk) (by simp)
 simpa using this
theorem i_past_5 : ∀ (l : List Int) (k : Nat) (m : List Bool), (∀ u ∈ l, 0 ≤ u ∧ u < (m.length : Int)) → gl_aj9_5 l k m = some (setAll m l)
 | [], k, m, h => rfl
 | u :: l, k, m, h => by
  have hu := h u (by simp)
  obtain ⟨b, hb⟩ := getI (xs := m) (i := u.toNat) (by omega)
  simp only [gl_aj9_5, idx_int hu.1, hb, Option.bind_some]
  exact i_past_5 l (k + 1) _ fun v hv => by
   rw [List.length_set]
   exact h v (by simp [hv])
theorem i_past_4 {r : Repo} {F : List Nat} (hc : Hist r.commits) : ∀ (k n : Nat) (m : List Bool), k < n → k ≤ r.commits.length → k ≤ 1048576 → Marks r.commits F k m → gl_aj9_4 r n ((k : Int) - 1) m = some (mark r.commits F)
 | _, 0, _, h, _, _, _ => by omega
 | 0, n + 1, m, _, _, _, h => by
  rw [h.fin]
  rfl
 | k + 1, n + 1, m, hn, hk, hb, h => by
  obtain ⟨x, hx⟩ := getI (xs := r.commits) (i := k) (by omega)
  obtain ⟨b, hb2⟩ := getI (xs := m) (i := k) (by rw [h.len]; omega)
  have e1 : (((k + 1 : Nat) : Int) - 1) = (k : Int) := by omega
  have hw : IntKind.i64.wrap ((k : Int) - 1) = (k : Int) - 1 := wrap_id (by omega) (by omega)
  have hge : decide ((k : Int) ≥ 0) = true := decide_eq_true (by omega)
  rw [e1]
  simp only [gl_aj9_4, hge, if_true, hw, idx_nat, hb2, Option.bind_some]
  cases b
  ·exact i_past_4 hc k n m (by omega) (by omega) (by omega) (h.skip (by rw [hb2]; simp))
  ·have h2 := hc.two x (List.mem_of_getElem? hx)
   simp only [hx, if_true, Option.bind_some]
   rw [if_pos (fits_small (by omega)), i_past_5 x.up 0 m (fun u hu => by
    have := hc.lt k x hx u hu
    rw [h.len]
    omega)]
   exact i_past_4 hc k n _ (by omega) (by omega) (by omega) (h.step hc hb2 hx)
theorem i_past {r : Repo} {k : Nat} (hc : Hist r.commits) (hl : r.commits.length ≤ 1048576) (hk : k < r.commits.length) : gf_aj9 r (k : Int) = some (mark r.commits [k]) := by
 have hr : rounds = 4194303 + 1 := rfl
 have h0 : (List.replicate r.commits.length false)[k]? = some false := by rw [List.getElem?_replicate, if_pos hk]
 have hm : Marks r.commits [k] (k + 1) ((List.replicate r.commits.length false).set k true) := by
  have := marks_init (cs := r.commits) (F := [k]) (by simpa using hk)
  exact marks_above hc (by simpa [setAll] using this) (by simp) (by omega)
 have e1 : (((k + 1 : Nat) : Int) - 1) = (k : Int) := by omega
 have := i_past_4 hc (k + 1) rounds _ (by rw [hr]; omega) (by omega) (by omega) hm
 rw [e1] at this
 unfold gf_aj9
 rw [if_pos (by simp [fits_small hl])]
 simp only [Int.toNat_natCast, idx_nat, h0, Option.bind_some, this]
def inR (r : Repo) (k : Int) : Bool := mRepo r && (decide (0 ≤ k) && decide (k < (r.commits.length : Int)))
theorem inR_at {r : Repo} {k : Int} (h : inR r k = true) : mRepo r = true ∧ ∃ n : Nat, k = (n : Int) ∧ n < r.commits.length := by
 unfold inR at h
 simp only [Bool.and_eq_true, decide_eq_true_eq] at h
 exact ⟨h.1, k.toNat, by omega, by omega⟩
def c1 {α : Type} (_ : α) : Nat := 1
def c2 {α : Type} (_ : α) : Nat := 2
theorem i_greatest_1 {m : List Bool} : ∀ (k n : Nat) (out : List Int), k < n → k ≤ m.length → k ≤ 1048576 → out.length + k ≤ 1048576 → gl_bb9_1 m n ((k : Int) - 1) out = some (out ++ downF (trueAt m) k)
 | _, 0, _, h, _, _, _ => by omega
 | 0, n + 1, out, _, _, _, _ => by simp only [downF, List.append_nil]; rfl
 | k + 1, n + 1, out, hn, hk, hb, ho => by
  obtain ⟨b, hb2⟩ := getI (xs := m) (i := k) (by omega)
  have e1 : (((k + 1 : Nat) : Int) - 1) = (k : Int) := by omega
  have hw : IntKind.i64.wrap ((k : Int) - 1) = (k : Int) - 1 := wrap_id (by omega) (by omega)
  have hge : decide ((k : Int) ≥ 0) = true := decide_eq_true (by omega)
  rw [e1]
  simp only [gl_bb9_1, hge, if_true, hw, idx_nat, hb2, Option.bind_some]
  cases b
  ·rw [if_neg (by decide), i_greatest_1 k n out (by omega) (by omega) (by omega) (by omega)]
   simp [downF, trueAt, hb2]
  ·rw [if_pos rfl, if_pos (fits_small (by simp; omega)), i_greatest_1 k n _ (by omega) (by omega) (by omega) (by simp; omega)]
   simp [downF, trueAt, hb2]
noncomputable def mPast (cs : List Commit) (k : Nat) : List Int := downF (trueAt (mark cs [k])) cs.length
theorem i_RepoPast {r : Repo} {k : Int} (hw : wRepo r ≤ 1048576) : gf_ae9 r k = some (if inR r k = true then mPast r.commits k.toNat else []) := by
 have hla : r.commits.length ≤ 1048576 := by unfold wRepo wL at hw; omega
 unfold gf_ae9
 rw [i_RepoOk hw, i_version hla]
 by_cases h : inR r k = true
 ·obtain ⟨hr, n, rfl, hn⟩ := inR_at h
  have hc := repo_hist hr
  have hrd : rounds = 4194303 + 1 := rfl
  have e1 : (decide ((0 : Int) ≤ (n : Int)) && decide ((n : Int) < (r.commits.length : Int))) = true := by simp; omega
  rw [h, hr, e1]
  simp only [Option.bind_some, Bool.not_true, i_past hc hla hn, if_true]
  rw [if_neg (by decide), if_neg (by decide)]
  unfold gf_bb9
  rw [mark_len, wrap_id (by omega) (by omega), i_greatest_1 r.commits.length rounds [] (by rw [hrd]; omega) (by rw [mark_len]; omega) hla (by simp; omega)]
  rfl
 ·have h' := h
  unfold inR at h'
  simp only [Bool.not_eq_true] at h h'
  rw [h]
  by_cases hr : mRepo r = true
  ·rw [hr] at h' ⊢
   simp only [Bool.true_and] at h'
   rw [h']
   rfl
  ·simp only [Bool.not_eq_true] at hr
   rw [hr]
   rfl
theorem fst_cases {α : Type} {p : α → Bool} : ∀ {l : List α} {k : Nat}, fstFrom p l k = -1 ∨ ∃ j x, fstFrom p l k = ((k + j : Nat) : Int) ∧ l[j]? = some x ∧ p x = true
 | [], k => .inl rfl
 | x :: l, k => by
  simp only [fstFrom]
  by_cases h : p x = true
  ·rw [if_pos h]
   exact .inr ⟨0, x, rfl, rfl, h⟩
  ·rw [if_neg h]
   rcases fst_cases (p := p) (l := l) (k := k + 1) with h1 | ⟨j, y, h1, h2, h3⟩
   ·exact .inl h1
   ·exact .inr ⟨j + 1, y, by rw [h1]; congr 1; omega, by simpa using h2, h3⟩
theorem head_at {r : Repo} (hr : mRepo r = true) (n : Str) : mHead r.heads n = -1 ∨ ∃ (k a : Nat) (h : Head), mHead r.heads n = (k : Int) ∧ r.heads[k]? = some h ∧ h.name = n ∧ h.at_ = (a : Int) ∧ a < r.commits.length := by
 rcases fst_cases (p := fun x : Head => decide (x.name = n)) (l := r.heads) (k := 0) with h | ⟨j, x, h1, h2, h3⟩
 ·exact .inl h
 ·refine .inr ⟨j, x.at_.toNat, x, by unfold mHead; rw [h1]; simp, h2, by simpa using h3, ?_⟩
  unfold mRepo at hr
  simp only [Bool.and_eq_true] at hr
  have := allFrom_get hr.2.2.2.2.2 j x h2
  simp only [Bool.and_eq_true, decide_eq_true_eq] at this
  omega
def mRepoAt (r : Repo) (n : Str) : Int := if mRepo r = true then (match idx r.heads (mHead r.heads n) with | some h => h.at_ | none => -1) else -1
theorem repoAt_cases (r : Repo) (n : Str) : (mRepoAt r n = -1 ∧ (mRepo r = true → mHead r.heads n = -1)) ∨ ∃ (k a : Nat) (h : Head), mRepo r = true ∧ mHead r.heads n = (k : Int) ∧ r.heads[k]? = some h ∧ h.name = n ∧ h.at_ = (a : Int) ∧ a < r.commits.length ∧ mRepoAt r n = (a : Int) := by
 by_cases hr : mRepo r = true
 ·rcases head_at hr n with h | ⟨k, a, h, h1, h2, h3, h4, h5⟩
  ·refine .inl ⟨?_, fun _ => h⟩
   unfold mRepoAt
   rw [if_pos hr, h]
   rfl
  ·refine .inr ⟨k, a, h, hr, h1, h2, h3, h4, h5, ?_⟩
   unfold mRepoAt
   rw [if_pos hr, h1, idx_nat, h2]
   exact h4
 ·exact .inl ⟨by unfold mRepoAt; rw [if_neg hr], fun h => absurd h hr⟩
theorem s_RepoAt {r : Repo} {n : Str} (hw : wRepo r ≤ 1048576) : gf_bw9 r n = some (mRepoAt r n) := by
 have hh : r.heads.length ≤ 1048576 := by unfold wRepo wL at hw; omega
 unfold gf_bw9
 rw [s_l7Head hh, s_RepoOk hw]
 simp only [Option.bind_some]
 rcases repoAt_cases r n with ⟨h1, h2⟩ | ⟨k, a, h, hr, h1, h2, h3, h4, h5, h6⟩
 ·rw [h1]
  by_cases hr : mRepo r = true
  ·rw [hr, h2 hr]
   rfl
  ·simp only [Bool.not_eq_true] at hr
   rw [hr]
   rfl
 ·rw [h6, hr, h1]
  simp only [Bool.not_true]
  rw [if_neg (by decide), if_neg (by simp), idx_nat, h2]
  simp [h4]
def upL (p : Nat → Bool) : Nat → Nat → List Int
 | 0, _ => []
 | n + 1, k => if p k = true then (k : Int) :: upL p n (k + 1) else upL p n (k + 1)
theorem upL_len {p : Nat → Bool} : ∀ {n k : Nat}, (upL p n k).length ≤ n
 | 0, k => Nat.le_refl _
 | n + 1, k => by
  have := upL_len (p := p) (n := n) (k := k + 1)
  simp only [upL]
  split
  ·simp; omega
  ·omega
noncomputable def lackP (a b : List Commit) (t : Nat) (i : Nat) : Bool := trueAt (mark b [t]) i && decide (mSyncFind a b i < 0)
noncomputable def mLack (a b : List Commit) (t : Nat) : List Int := upL (lackP a b t) b.length 0
theorem i_SyncLack_1 {a b : Repo} (ha : mRepo a = true) (hb : mRepo b = true) (hwa : wRepo a ≤ 1048576) (hwb : wRepo b ≤ 1048576) {t : Nat} : ∀ (l : List Bool) (k : Nat) (out : List Int), (mark b.commits [t]).drop k = l → out.length + l.length ≤ 1048576 → gl_ar9_1 a b l k out = some (out ++ upL (lackP a.commits b.commits t) l.length k)
 | [], k, out, h, ho => by simp [gl_ar9_1, upL]
 | x :: l, k, out, h, ho => by
  have hx := drop_get h
  have hk := get_lt hx
  rw [mark_len] at hk
  have hin : (mRepo a && (mRepo b && (decide (0 ≤ (k : Int)) && decide ((k : Int) < (b.commits.length : Int))))) = true := by simp [ha, hb, hk]
  have hf := i_SyncFind (k := (k : Int)) hwa hwb
  rw [if_pos hin, Int.toNat_natCast] at hf
  simp only [List.length_cons] at ho
  simp only [gl_ar9_1, hf, Option.bind_some, List.length_cons]
  cases x
  ·rw [if_neg (by decide), i_SyncLack_1 ha hb hwa hwb l (k + 1) out (drop_next h) (by omega)]
   simp [upL, lackP, trueAt, hx]
  ·rw [if_pos rfl]
   by_cases h1 : mSyncFind a.commits b.commits k < 0
   ·rw [if_pos (by simpa using h1), if_pos (fits_small (by simp; omega)), i_SyncLack_1 ha hb hwa hwb l (k + 1) _ (drop_next h) (by simp; omega)]
    simp [upL, lackP, trueAt, hx, h1]
   ·rw [if_neg (by simpa using h1), i_SyncLack_1 ha hb hwa hwb l (k + 1) out (drop_next h) (by omega)]
    simp [upL, lackP, trueAt, hx, h1]
theorem s_SyncLack_1 {a b : Repo} (ha : mRepo a = true) (hb : mRepo b = true) (hwa : wRepo a ≤ 1048576) {t : Nat} : ∀ (l : List Commit) (k : Nat) (out : List Int), b.commits.drop k = l → out.length + l.length ≤ 1048576 → gl_ce9_1 (mark b.commits [t]) a b l k out = some (out ++ upL (lackP a.commits b.commits t) l.length k)
 | [], k, out, h, ho => by simp [gl_ce9_1, upL]
 | x :: l, k, out, h, ho => by
  have hk := drop_len h
  obtain ⟨m, hm⟩ := getI (xs := mark b.commits [t]) (i := k) (by rw [mark_len]; exact hk)
  simp only [List.length_cons] at ho
  simp only [gl_ce9_1, idx_nat, hm, s_l10Find ha hb hwa hk, Option.bind_some, List.length_cons]
  cases m
  ·rw [if_neg (by decide), s_SyncLack_1 ha hb hwa l (k + 1) out (drop_next h) (by omega)]
   simp [upL, lackP, trueAt, hm]
  ·rw [if_pos rfl]
   by_cases h1 : mSyncFind a.commits b.commits k < 0
   ·rw [if_pos (by simpa using h1), if_pos (fits_small (by simp; omega)), s_SyncLack_1 ha hb hwa l (k + 1) _ (drop_next h) (by simp; omega)]
    simp [upL, lackP, trueAt, hm, h1]
   ·rw [if_neg (by simpa using h1), s_SyncLack_1 ha hb hwa l (k + 1) out (drop_next h) (by omega)]
    simp [upL, lackP, trueAt, hm, h1]
noncomputable def mSyncLack (a b : Repo) (n : Str) : List Int := if mRepo a = true then (if mRepoAt b n < 0 then [] else mLack a.commits b.commits (mRepoAt b n).toNat) else []
theorem i_SyncLack {a b : Repo} {n : Str} (hwa : wRepo a ≤ 1048576) (hwb : wRepo b ≤ 1048576) : gf_ar9 a b n = some (mSyncLack a b n) := by
 have hh : b.heads.length ≤ 1048576 := by unfold wRepo wL at hwb; omega
 have hl : b.commits.length ≤ 1048576 := by unfold wRepo wL at hwb; omega
 unfold gf_ar9 mSyncLack
 rw [i_RepoOk hwa, i_RepoOk hwb, i_Repo_head hh]
 simp only [Option.bind_some]
 by_cases ha : mRepo a = true
 ·rw [ha]
  simp only [Bool.not_true, if_true]
  rw [if_neg (by decide)]
  rcases repoAt_cases b n with ⟨h1, h2⟩ | ⟨k, t, h, hb, h1, h2, h3, h4, h5, h6⟩
  ·rw [h1]
   by_cases hb : mRepo b = true
   ·rw [hb, h2 hb]
    rfl
   ·simp only [Bool.not_eq_true] at hb
    rw [hb]
    rfl
  ·have hc := repo_hist hb
   rw [h6, hb, h1, idx_nat, h2]
   simp only [Bool.not_true, Option.bind_some, h4, i_past hc hl h5]
   rw [if_neg (by decide), if_neg (by simp), if_pos (fits_small (by rw [mark_len]; exact hl)), i_SyncLack_1 ha hb hwa hwb (mark b.commits [t]) 0 [] rfl (by rw [mark_len]; simpa using hl), mark_len, if_neg (by omega), Int.toNat_natCast]
   rfl
 ·simp only [Bool.not_eq_true] at ha
  rw [ha]
  rfl
theorem s_SyncLack {a b : Repo} {n : Str} (hwa : wRepo a ≤ 1048576) (hwb : wRepo b ≤ 1048576) : gf_ce9 a b n = some (mSyncLack a b n) := by
 have hl : b.commits.length ≤ 1048576 := by unfold wRepo wL at hwb; omega
 unfold gf_ce9 mSyncLack
 rw [s_RepoAt hwb, s_RepoOk hwa]
 simp only [Option.bind_some]
 by_cases ha : mRepo a = true
 ·rw [ha]
  simp only [Bool.not_true, if_true]
  rw [if_neg (by decide)]
  rcases repoAt_cases b n with ⟨h1, h2⟩ | ⟨k, t, h, hb, h1, h2, h3, h4, h5, h6⟩
  ·rw [h1]
   rfl
  ·have hc := repo_hist hb
   rw [h6, if_neg (by simp), if_neg (by omega), s_l7Marks1 hc hl h5, Int.toNat_natCast]
   simp only [Option.bind_some]
   rw [if_pos (fits_small hl), s_SyncLack_1 ha hb hwa b.commits 0 [] rfl (by simpa using hl)]
   rfl
 ·simp only [Bool.not_eq_true] at ha
  rw [ha]
  rfl
theorem mSyncLack_len {a b : Repo} {n : Str} : (mSyncLack a b n).length ≤ b.commits.length := by
 unfold mSyncLack
 split
 ·split
  ·simp
  ·exact upL_len
 ·simp
theorem cpa_loop {α : Type} {g : α → Option α} {gl : List α → Nat → List α → Option (List α)} (h0 : ∀ k v, gl [] k v = some v) (h1 : ∀ x l k v, gl (x :: l) k v = (g x).bind fun y => if fits (v ++ [y]).length = true then gl l (k + 1) (v ++ [y]) else none) : ∀ (l : List α) (k : Nat) (v : List α), (∀ x ∈ l, g x = some x) → v.length + l.length ≤ 1048576 → gl l k v = some (v ++ l)
 | [], k, v, _, _ => by rw [h0]; simp
 | x :: l, k, v, hx, hl => by
  simp only [List.length_cons] at hl
  rw [h1, hx x (by simp)]
  simp only [Option.bind_some]
  rw [if_pos (fits_small (by simp; omega)), cpa_loop h0 h1 l (k + 1) _ (fun y hy => hx y (by simp [hy])) (by simp; omega)]
  simp
theorem s_l2Copy {f : Feat} (h : wFeat f ≤ 1048576) : gf_cw9 f = some f := by
 unfold wFeat wShape wL at h
 unfold gf_cw9 gf_co9
 rw [if_pos (fits_small (by simp; omega))]
 simp only [Option.bind_some]
 rw [if_pos (fits_small (by simp; omega))]
 rfl
theorem s_l3Copy {fs : List Feat} (h : wL wFeat fs ≤ 1048576) : gf_df9 fs = some fs := by
 have hl : fs.length ≤ 1048576 := by unfold wL at h; omega
 unfold gf_df9
 rw [if_pos (fits_small hl), cpa_loop (gl := gl_df9_1) (fun _ _ => rfl) (fun _ _ _ _ => rfl) fs 0 [] (fun x hx => s_l2Copy (by have := sum_mem (w := wFeat) hx; unfold wL at h; omega)) (by simpa using hl)]
 rfl
theorem s_l7One {c : Commit} (h : wCommit c ≤ 1048576) : gf_dx9 c = some c := by
 unfold wCommit at h
 unfold gf_dx9
 rw [if_pos (fits_small (by unfold wL at h; simp; omega)), s_l3Copy (by omega)]
 rfl
theorem s_l7Copy {r : Repo} (h : wRepo r ≤ 1048576) : gf_dp9 r = some r := by
 unfold wRepo at h
 have hl : r.commits.length ≤ 1048576 := by unfold wL at h; omega
 unfold gf_dp9
 rw [if_pos (fits_small (by unfold wL at h; simp; omega)), if_pos (fits_small hl), cpa_loop (gl := gl_dp9_1) (fun _ _ => rfl) (fun _ _ _ _ => rfl) r.commits 0 [] (fun x hx => s_l7One (by have := sum_mem (w := wCommit) hx; unfold wL at h; omega)) (by simpa using hl)]
 rfl
theorem i_cloneFeat {f : Feat} (h : wFeat f ≤ 1048576) : gf_ax9 f = some f := by
 unfold wFeat wShape wL at h
 unfold gf_ax9 gf_az9
 rw [if_pos (fits_small (by simp; omega))]
 simp only [Option.bind_some]
 rw [if_pos (fits_small (by simp; omega))]
 rfl
theorem i_cloneSheet {fs : List Feat} (h : wL wFeat fs ≤ 1048576) : gf_ba9 fs = some fs := by
 have hl : fs.length ≤ 1048576 := by unfold wL at h; omega
 unfold gf_ba9
 rw [if_pos (fits_small hl), cpa_loop (gl := gl_ba9_1) (fun _ _ => rfl) (fun _ _ _ _ => rfl) fs 0 [] (fun x hx => i_cloneFeat (by have := sum_mem (w := wFeat) hx; unfold wL at h; omega)) (by simpa using hl)]
 rfl
theorem i_cloneCommit {c : Commit} (h : wCommit c ≤ 1048576) : gf_aw9 c = some c := by
 unfold wCommit at h
 unfold gf_aw9
 rw [if_pos (fits_small (by unfold wL at h; simp; omega)), i_cloneSheet (by omega)]
 rfl
theorem i_cloneRepo {r : Repo} (h : wRepo r ≤ 1048576) : gf_ay9 r = some r := by
 unfold wRepo at h
 have hl : r.commits.length ≤ 1048576 := by unfold wL at h; omega
 unfold gf_ay9
 rw [if_pos (fits_small (by unfold wL at h; simp; omega)), if_pos (fits_small hl), cpa_loop (gl := gl_ay9_1) (fun _ _ => rfl) (fun _ _ _ _ => rfl) r.commits 0 [] (fun x hx => i_cloneCommit (by have := sum_mem (w := wCommit) hx; unfold wL at h; omega)) (by simpa using hl)]
 rfl
def rNil : Repo := ⟨[], []⟩
def mBranch (r : Repo) (n f : Str) : Repo × Int :=
 if (mRepo r && mWord n) = true then
  (if mHead r.heads f < 0 then (r, 1) else if 0 ≤ mHead r.heads n ∨ r.heads.length = 4 then (r, 2) else
   match idx r.heads (mHead r.heads f) with
   | some h => (⟨r.commits, r.heads ++ [⟨n, h.at_⟩]⟩, 0)
   | none => (rNil, 9))
 else (rNil, 4)
theorem s_RepoBranch {r : Repo} {n f : Str} (hw : wRepo r ≤ 1048576) (hn : n.size ≤ 1048576) : gf_bx9 r n f = some (mBranch r n f) := by
 have hh : r.heads.length ≤ 1048576 := by unfold wRepo wL at hw; omega
 unfold gf_bx9 mBranch
 rw [s_RepoOk hw, s_WordOk hn, s_l7Copy hw, s_l7Head hh, s_l7Head hh]
 simp only [Option.bind_some]
 by_cases hr : mRepo r = true
 ·by_cases hx : mWord n = true
  ·have h4 : r.heads.length ≤ 4 := (repo_len hr).2.2
   rw [hr, hx]
   simp only [Bool.not_true, Bool.and_self, if_true]
   rw [if_neg (by decide), if_neg (by decide)]
   rcases head_at hr f with h | ⟨k, a, h, h1, h2, _⟩
   ·rw [h]
    rfl
   ·rw [h1]
    have hk : ¬ ((k : Int) < 0) := by omega
    by_cases h5 : 0 ≤ mHead r.heads n
    ·simp [hk, h5]
    ·by_cases h6 : r.heads.length = 4
     ·simp [hk, h5, h6]
     ·have h6' : ¬ ((r.heads.length : Int) = 4) := by omega
      have h6'' : ¬ ((4 : Int) ≤ (r.heads.length : Int)) := by omega
      have hfit : fits (r.heads.length + 1) = true := fits_small (by omega)
      simp [hk, h5, h6, h6', h6'', idx_nat, h2, hfit]
  ·simp only [Bool.not_eq_true] at hx
   rw [hr, hx]
   rfl
 ·simp only [Bool.not_eq_true] at hr
  rw [hr]
  rfl
def cnt (m : List Bool) : Nat → Nat
 | 0 => 0
 | k + 1 => cnt m k + (if trueAt m k = true then 1 else 0)
def newUp (m : List Bool) (c : Commit) : Commit := ⟨c.up.map fun u => (cnt m u.toNat : Int), c.sheet, c.note⟩
def sweepC (m : List Bool) : List Commit → Nat → List Commit
 | [], _ => []
 | x :: l, k => if trueAt m k = true then newUp m x :: sweepC m l (k + 1) else sweepC m l (k + 1)
theorem mark_up {cs : List Commit} {F : List Nat} (hc : Hist cs) {k : Nat} {x : Commit} (hx : cs[k]? = some x) (hm : trueAt (mark cs F) k = true) : ∀ u ∈ x.up, 0 ≤ u ∧ u.toNat < k ∧ trueAt (mark cs F) u.toNat = true := fun u hu => by
 have hlt := hc.lt k x hx u hu
 have hk := get_lt hx
 refine ⟨hlt.1, by omega, ?_⟩
 obtain ⟨b, h1, h2⟩ := mark_get (F := F) hk
 obtain ⟨c, h3, h4⟩ := mark_get (cs := cs) (F := F) (j := u.toNat) (by omega)
 unfold trueAt at hm ⊢
 rw [h1] at hm
 rw [h3]
 have hb : b = true := by cases b <;> simp_all
 obtain ⟨f, hf, ha⟩ := h2.1 hb
 have := h4.2 ⟨f, hf, .up ha hx hu⟩
 rw [this]
 rfl
theorem mark_head {cs : List Commit} {F : List Nat} {f : Nat} (hf : f ∈ F) (hl : f < cs.length) : trueAt (mark cs F) f = true := by
 obtain ⟨b, h1, h2⟩ := mark_get (F := F) hl
 unfold trueAt
 rw [h1, h2.2 ⟨f, hf, .refl f⟩]
 rfl
def setAtH (hs : List Head) (k : Nat) (h : Head) (v : Int) : List Head := hs.set k ⟨h.name, v⟩
def mAdd (r : Repo) (n : Str) (s : List Feat) (t : Str) : Repo × Int :=
 if (mRepo r && (mSheet s && mWord t)) = true then
  (match idx r.heads (mHead r.heads n) with
  | none => (r, 1)
  | some h => match idx r.commits h.at_ with
   | none => (r, 1)
   | some x => if x.sheet = s then (r, 3) else
    if mFind r.commits ⟨[h.at_], s, t⟩ < 0 then
     (if r.commits.length = 14 then (r, 2) else (⟨r.commits ++ [⟨[h.at_], s, t⟩], setAtH r.heads (mHead r.heads n).toNat h r.commits.length⟩, 0))
    else (⟨r.commits, setAtH r.heads (mHead r.heads n).toNat h (mFind r.commits ⟨[h.at_], s, t⟩)⟩, 0))
 else (⟨[], []⟩, 4)
theorem sumW_set {α : Type} {w : α → Nat} : ∀ (xs : List α) (k : Nat) (x y : α), xs[k]? = some x → w y ≤ w x → sumW w (xs.set k y) ≤ sumW w xs
 | [], k, x, y, h, _ => by simp at h
 | z :: xs, 0, x, y, h, hw => by
  simp only [List.getElem?_cons_zero, Option.some.injEq] at h
  subst h
  simp only [List.set_cons_zero, sumW]
  omega
 | z :: xs, k + 1, x, y, h, hw => by
  have := sumW_set xs k x y (by simpa using h) hw
  simp only [List.set_cons_succ, sumW]
  omega
theorem setAtH_w {hs : List Head} {n : Str} {h : Head} {v : Int} (hh : idx hs (mHead hs n) = some h) : wL wHead (setAtH hs (mHead hs n).toNat h v) ≤ wL wHead hs := by
 have h1 := (idx_get hh).2
 have := sumW_set (w := wHead) hs _ h ⟨h.name, v⟩ h1 (Nat.le_refl _)
 unfold wL setAtH
 simp only [List.length_set]
 omega
theorem sumW_app1 {α : Type} {w : α → Nat} : ∀ (a : List α) (x : α), sumW w (a ++ [x]) = sumW w a + w x
 | [], x => by simp [sumW]
 | y :: a, x => by simp only [List.cons_append, sumW, sumW_app1 a x]; omega
theorem mAdd_w {r : Repo} {n t : Str} {s : List Feat} : wRepo (mAdd r n s t).1 ≤ wRepo r + (2 + (wL wFeat s + t.size)) := by
 unfold mAdd
 split
 ·split
  ·simp only; omega
  ·rename_i h hh
   split
   ·simp only; omega
   ·split
    ·simp only; omega
    ·split
     ·split
      ·simp only; omega
      ·have := setAtH_w (v := (r.commits.length : Int)) hh
       simp only [wRepo]
       have e : wL wCommit (r.commits ++ [⟨[h.at_], s, t⟩]) = wL wCommit r.commits + (1 + wCommit ⟨[h.at_], s, t⟩) := by
        unfold wL
        rw [sumW_app1]
        simp
        omega
       have e2 : wCommit ⟨[h.at_], s, t⟩ = 1 + (wL wFeat s + (t.size + 0)) := by unfold wCommit; simp [wL, sumW, w0]
       omega
     ·have := setAtH_w (v := mFind r.commits ⟨[h.at_], s, t⟩) hh
      simp only [wRepo]
      omega
 ·have : wRepo ⟨[], []⟩ = 0 := rfl
  simp only [this]
  omega
theorem ixor_nn {a b : Int} (h1 : 0 ≤ a) (h2 : a < 4294967296) (h3 : 0 ≤ b) (h4 : b < 4294967296) : 0 ≤ ixor a b := by
 unfold ixor
 have e : ((BitVec.ofInt 64 a ^^^ BitVec.ofInt 64 b).toNat) < 2 ^ 32 := by
  rw [BitVec.toNat_xor, BitVec.toNat_ofInt, BitVec.toNat_ofInt]
  apply Nat.xor_lt_two_pow
  ·have : (a % ((2 ^ 64 : Nat) : Int)) = a := Int.emod_eq_of_lt h1 (by omega)
   rw [this]
   omega
  ·have : (b % ((2 ^ 64 : Nat) : Int)) = b := Int.emod_eq_of_lt h3 (by omega)
   rw [this]
   omega
 rw [wrap_id (by omega) (by omega)]
 omega
theorem imod_ok {a b : Int} (h : 0 < b) (ha : 0 ≤ a) : ∃ v, imod a b = some v ∧ 0 ≤ v ∧ v < b := by
 unfold imod
 rw [if_pos (by omega)]
 exact ⟨_, rfl, Int.tmod_nonneg b ha, Int.tmod_lt_of_pos a h⟩
theorem getU {b : List UInt8} {i : Int} (h0 : 0 ≤ i) (h : i < b.length) : ∃ x : UInt8, idx b i = some x := by
 rw [idx_int h0]
 exact getI (by omega)
theorem p_pick {b : List UInt8} {p n : Int} (hb : b.length ≤ 2000) (h0 : 0 ≤ p) (hp : p ≤ 1000000) : ∃ v, gf_cm9 ⟨b, p⟩ n = some (v, p + 1) ∧ 0 ≤ v ∧ (1 ≤ n → v < n) := by
 unfold gf_cm9
 simp only
 have e1 : IntKind.i64.wrap (p + 1) = p + 1 := wrap_id (by omega) (by omega)
 have e2 : IntKind.i64.wrap (p + 1 - 1) = p := by rw [wrap_id (by omega) (by omega)]; omega
 rw [e1, e2]
 by_cases hn : n < 1
 ·rw [if_pos (by simpa using hn)]
  exact ⟨0, rfl, by omega, by omega⟩
 rw [if_neg (by simpa using hn)]
 by_cases hz : b.length = 0
 ·rw [if_pos (by simp [hz])]
  exact ⟨0, rfl, by omega, by omega⟩
 rw [if_neg (by simpa using hz)]
 have hx8 : ∀ x : UInt8, (x.toNat : Int) < 256 := fun x => by have := x.toNat_lt; omega
 by_cases hl : p < b.length
 ·rw [if_pos (by simpa using hl)]
  obtain ⟨x, hx⟩ := getU h0 hl
  have := hx8 x
  rw [hx, Option.bind_some, wrap_id (by omega) (by omega)]
  obtain ⟨v, hv, h1, h2⟩ := imod_ok (a := (x.toNat : Int)) (b := n) (by omega) (by omega)
  rw [hv]
  exact ⟨v, rfl, h1, fun _ => h2⟩
 rw [if_neg (by simpa using hl)]
 obtain ⟨i, hi, i1, i2⟩ := imod_ok (a := p) (b := b.length) (by omega) h0
 obtain ⟨x, hx⟩ := getU i1 i2
 have e3 : IntKind.i64.wrap (IntKind.i64.wrap (p * 7) + 3) = p * 7 + 3 := by rw [wrap_id (n := p * 7) (by omega) (by omega), wrap_id (by omega) (by omega)]
 obtain ⟨j, hj, j1, j2⟩ := imod_ok (a := p * 7 + 3) (b := b.length) (by omega) (by omega)
 obtain ⟨y, hy⟩ := getU j1 j2
 have q1 : 0 ≤ p.tdiv b.length := Int.tdiv_nonneg h0 (by omega)
 have q2 : p.tdiv b.length ≤ p := Int.tdiv_le_self _ h0
 have hq : idiv p b.length = some (p.tdiv b.length) := by
  unfold idiv
  rw [if_pos (by omega), wrap_id (by omega) (by omega)]
 rw [hi, Option.bind_some, hx, Option.bind_some, e3, hj, Option.bind_some, hy, Option.bind_some, hq, Option.bind_some]
 have ux := hx8 x
 have uy := hx8 y
 have wx : 0 ≤ (x.toNat : Int) := by omega
 have wy : 0 ≤ (y.toNat : Int) := by omega
 generalize (x.toNat : Int) = X at ux wx ⊢
 generalize (y.toNat : Int) = Y at uy wy ⊢
 generalize p.tdiv b.length = T at q1 q2 ⊢
 rw [wrap_id (n := X) (by omega) (by omega), wrap_id (n := Y) (by omega) (by omega), wrap_id (n := X * 131) (by omega) (by omega), wrap_id (n := Y * 1117) (by omega) (by omega), wrap_id (n := X * 131 + Y * 1117) (by omega) (by omega),
  wrap_id (n := p * 29) (by omega) (by omega), wrap_id (n := X * 131 + Y * 1117 + p * 29) (by omega) (by omega), wrap_id (n := T * 53) (by omega) (by omega), wrap_id (n := X * 131 + Y * 1117 + p * 29 + T * 53) (by omega) (by omega)]
 have s0 : 0 ≤ X * 131 + Y * 1117 + p * 29 + T * 53 := by omega
 have s1 : X * 131 + Y * 1117 + p * 29 + T * 53 < 4294967296 := by omega
 generalize X * 131 + Y * 1117 + p * 29 + T * 53 = S at s0 s1 ⊢
 have t0 : 0 ≤ S.tdiv 64 := Int.tdiv_nonneg s0 (by omega)
 have t1 : S.tdiv 64 ≤ S := Int.tdiv_le_self _ s0
 rw [wrap_id (by omega) (by omega)]
 obtain ⟨v, hv, h1, h2⟩ := imod_ok (a := ixor S (S.tdiv 64)) (b := n) (by omega) (ixor_nn s0 s1 t0 (by omega))
 rw [hv]
 exact ⟨v, rfl, h1, fun _ => h2⟩
def Drw {α : Type} (g : Rd → Option (α × Int)) (k : Nat) (P : α → Prop) : Prop := ∀ (b : List UInt8) (p : Int), b.length ≤ 2000 → 0 ≤ p → p + k ≤ 100000 → ∃ a p', g ⟨b, p⟩ = some (a, p') ∧ p ≤ p' ∧ p' ≤ p + k ∧ P a
theorem dr_pick {n : Int} : Drw (fun r => gf_cm9 r n) 1 fun v => 0 ≤ v ∧ (1 ≤ n → v < n) := fun b p hb h0 hp => by
 obtain ⟨v, hv, h⟩ := p_pick (n := n) hb h0 (by omega)
 exact ⟨v, p + 1, hv, by omega, by omega, h⟩
theorem dr_of {l : List Str} (hl : l ≠ []) : Drw (fun r => gf_cl9 r l) 1 fun v => v ∈ l := fun b p hb h0 hp => by
 obtain ⟨v, hv, h1, h2⟩ := p_pick (n := (l.length : Int)) hb h0 (by omega)
 have hn : 0 < l.length := List.length_pos_iff.2 hl
 have h3 := h2 (by omega)
 have hx : idx l v = some l[v.toNat] := by rw [idx_int h1]; exact List.getElem?_eq_getElem (by omega)
 exact ⟨l[v.toNat], p + 1, by simp only [gf_cl9, hv, Option.bind_some, hx], by omega, by omega, List.getElem_mem _⟩
theorem dr_num {l : List Int} (hl : l ≠ []) : Drw (fun r => gf_ck9 r l) 1 fun v => v ∈ l := fun b p hb h0 hp => by
 obtain ⟨v, hv, h1, h2⟩ := p_pick (n := (l.length : Int)) hb h0 (by omega)
 have hn : 0 < l.length := List.length_pos_iff.2 hl
 have h3 := h2 (by omega)
 have hx : idx l v = some l[v.toNat] := by rw [idx_int h1]; exact List.getElem?_eq_getElem (by omega)
 exact ⟨l[v.toNat], p + 1, by simp only [gf_ck9, hv, Option.bind_some, hx], by omega, by omega, List.getElem_mem _⟩
theorem dr_l1Pt : Drw gf_cr9 2 fun _ => True := fun b p hb h0 hp => by
 obtain ⟨x, p1, h1, a1, b1, _⟩ := dr_pick (n := 4) b p hb h0 (by omega)
 obtain ⟨y, p2, h2, a2, b2, _⟩ := dr_num (l := [0, 1, 2, 5]) (by simp) b p1 hb (by omega) (by omega)
 refine ⟨⟨x, y⟩, p2, ?_, by omega, by omega, trivial⟩
 unfold gf_cr9
 simp only at h1 h2
 simp only [h1, Option.bind_some, h2]
theorem p_l1Min (a c : Int) : ∃ v, gf_cp9 a c = some v := by
 unfold gf_cp9
 split <;> exact ⟨_, rfl⟩
theorem someB {p : Bool} {A B : Option Bool} (ha : ∃ q, A = some q) (hb : ∃ q, B = some q) : ∃ q, (if p = true then A else B) = some q := by
 split
 ·exact ha
 ·exact hb
theorem l1Shape_loop (q : Int) (a : Rd) (x : Int × Int) (hb : a.b.length ≤ 2000) : ∀ (m n : Nat) (i p : Int) (pts : List Pt), m < n → 0 ≤ i → i + m = 12 → (pts.length : Int) ≤ i → 0 ≤ p → p + 2 * m ≤ 100000 → ∃ p' pts', gl_cu9_1 q a x n i p pts = some (p', pts') ∧ p ≤ p' ∧ p' ≤ p + 2 * m ∧ pts'.length ≤ 12
 | _, 0, _, _, _, h, _, _, _, _, _ => by omega
 | 0, n + 1, i, p, pts, h, h0, hi, hl, hp, hk => by
  refine ⟨p, pts, ?_, by omega, by omega, by omega⟩
  unfold gl_cu9_1
  rw [if_neg (by simp; omega)]
 | m + 1, n + 1, i, p, pts, h, h0, hi, hl, hp, hk => by
  unfold gl_cu9_1
  rw [if_pos (by simp; omega)]
  obtain ⟨w, hw⟩ := p_l1Min q 6
  rw [hw, Option.bind_some]
  by_cases hlt : (pts.length : Int) < w
  ·rw [if_pos (by simpa using hlt)]
   obtain ⟨t, p1, h1, a1, b1, _⟩ := dr_l1Pt a.b p hb hp (by omega)
   rw [h1, Option.bind_some]
   simp only
   have hq : ∃ z, (if ((pts.length : Int) == 0) = true then (some true) else ((idx pts (IntKind.i64.wrap ((pts.length : Int) - 1))).bind fun x130 => if (!((x130.x == t.x) && ((x130.y == t.y) && true))) = true then (if (x.1 != 3) = true then (some true) else ((idx pts 0).bind fun x132 => some (!((x132.x == t.x) && ((x132.y == t.y) && true))))) else (some false))) = some z := by
    by_cases hz : pts.length = 0
    ·exact ⟨true, by rw [if_pos (by simp [hz])]⟩
    ·rw [if_neg (by simpa using hz)]
     have e : IntKind.i64.wrap ((pts.length : Int) - 1) = ((pts.length - 1 : Nat) : Int) := wrap_pred (by omega) (by omega)
     obtain ⟨y, hy⟩ := getI (xs := pts) (i := pts.length - 1) (by omega)
     obtain ⟨z, hz0⟩ := getI (xs := pts) (i := 0) (by omega)
     have hz1 : idx pts 0 = some z := by rw [show (0 : Int) = ((0 : Nat) : Int) from rfl, idx_nat]; exact hz0
     rw [e, idx_nat, hy, Option.bind_some]
     refine someB (someB ⟨_, rfl⟩ ?_) ⟨_, rfl⟩
     rw [hz1]
     exact ⟨_, rfl⟩
   obtain ⟨z, hz⟩ := hq
   rw [hz, Option.bind_some, wrap_id (n := i + 1) (by omega) (by omega)]
   by_cases hzz : z = true
   ·rw [if_pos hzz, if_pos (fits_small (by simp; omega))]
    obtain ⟨p', pts', g1, g2, g3, g4⟩ := l1Shape_loop q a x hb m n (i + 1) p1 (pts ++ [t]) (by omega) (by omega) (by omega) (by simp; omega) (by omega) (by omega)
    exact ⟨p', pts', g1, by omega, by omega, g4⟩
   ·rw [if_neg hzz]
    obtain ⟨p', pts', g1, g2, g3, g4⟩ := l1Shape_loop q a x hb m n (i + 1) p1 pts (by omega) (by omega) (by omega) (by omega) (by omega) (by omega)
    exact ⟨p', pts', g1, by omega, by omega, g4⟩
  ·rw [if_neg (by simpa using hlt)]
   exact ⟨p, pts, rfl, by omega, by omega, by omega⟩
theorem dr_l1Shape : Drw gf_cu9 30 fun s => 1 ≤ s.pts.length ∧ s.pts.length ≤ 12 := fun b p hb h0 hp => by
 obtain ⟨k, p1, h1, a1, b1, hk⟩ := dr_num (l := [1, 2, 2, 3, 3]) (by simp) b p hb h0 (by omega)
 obtain ⟨w, p2, h2, a2, b2, _⟩ := dr_pick (n := 4) b p1 hb (by omega) (by omega)
 unfold gf_cu9
 simp only at h1 h2
 simp only [h1, Option.bind_some, h2]
 have hq : ∃ q, (if (k == 1) = true then some 1 else some (IntKind.i64.wrap (k + w)) : Option Int) = some q := by split <;> exact ⟨_, rfl⟩
 obtain ⟨q, hq⟩ := hq
 rw [hq, Option.bind_some]
 obtain ⟨p3, pts, h3, a3, b3, c3⟩ := l1Shape_loop q ⟨b, p⟩ (k, p1) hb 12 rounds 0 p2 [] (by decide) (by omega) (by omega) (by simp) (by omega) (by omega)
 rw [h3, Option.bind_some]
 simp only
 rw [s_ShapeOk (by simp; omega), Option.bind_some]
 by_cases hs : mShape ⟨k, pts⟩ = true
 ·rw [hs]
  refine ⟨_, p3, rfl, by omega, by omega, ?_, c3⟩
  simp only [mShape, Bool.and_eq_true] at hs
  have h4 := hs.2.2
  simp only
  by_cases e1 : k = 1
  ·rw [if_pos e1] at h4; have := of_decide_eq_true h4; omega
  ·rw [if_neg e1] at h4
   by_cases e2 : k = 2
   ·rw [if_pos e2] at h4; have := of_decide_eq_true h4; omega
   ·rw [if_neg e2] at h4
    by_cases e3 : k = 3
    ·rw [if_pos e3] at h4
     simp only [Bool.and_eq_true, decide_eq_true_eq] at h4
     omega
    ·rw [if_neg e3] at h4
     cases h4
 ·rw [Bool.not_eq_true] at hs
  rw [hs]
  obtain ⟨t, p4, h4, a4, b4, _⟩ := dr_l1Pt b p3 hb (by omega) (by omega)
  simp only [Bool.not_false, if_true, h4, Option.bind_some]
  exact ⟨_, p4, rfl, by omega, by omega, by simp, by simp⟩
theorem put_loop {α : Type} {f : α} {c1 c2 : α → Bool} {gl : List α → Nat → Bool → List α → Option (Bool × List α)} (h0 : ∀ k v w, gl [] k v w = some (v, w))
  (h1 : ∀ x l k v w, gl (x :: l) k v w = ((if (!v) = true then (if c1 x = true then (if fits (w ++ [f]).length = true then some (true, (w ++ [f])) else none) else (some (v, w))) else (some (v, w)) : Option (Bool × (List α)))).bind fun q => if c2 x = true then (if fits (q.2 ++ [x]).length = true then gl l (k + 1) q.1 (q.2 ++ [x]) else none) else gl l (k + 1) q.1 q.2) :
  ∀ (l : List α) (k : Nat) (v : Bool) (w : List α), w.length + l.length + (if v then 0 else 1) ≤ 1000000 → ∃ d out, gl l k v w = some (d, out) ∧ out.length + (if d then 0 else 1) ≤ w.length + l.length + (if v then 0 else 1) ∧ ∀ y ∈ out, y ∈ w ∨ y ∈ l ∨ y = f
 | [], k, v, w, hl => ⟨v, w, h0 k v w, by simp, fun y hy => .inl hy⟩
 | x :: l, k, v, w, hl => by
  simp only [List.length_cons] at hl
  rw [h1]
  have hq : ∃ v2 w2, ((if (!v) = true then (if c1 x = true then (if fits (w ++ [f]).length = true then some (true, (w ++ [f])) else none) else (some (v, w))) else (some (v, w)) : Option (Bool × (List α)))) = some (v2, w2) ∧ w2.length + (if v2 then 0 else 1) ≤ w.length + (if v then 0 else 1) ∧ ∀ y ∈ w2, y ∈ w ∨ y = f := by
   cases v
   ·simp only [Bool.not_false, if_true]
    by_cases hc : c1 x = true
    ·rw [if_pos hc, if_pos (fits_small (by simp; omega))]
     exact ⟨true, w ++ [f], rfl, by simp, fun y hy => by simpa using hy⟩
    ·rw [if_neg hc]
     exact ⟨false, w, rfl, by simp, fun y hy => .inl hy⟩
   ·exact ⟨true, w, rfl, by simp, fun y hy => .inl hy⟩
  obtain ⟨v2, w2, e, q1, q2⟩ := hq
  rw [e, Option.bind_some]
  have hw2 : w2.length ≤ w.length + 1 := by
   cases v <;> cases v2 <;> simp at q1 <;> omega
  by_cases hc : c2 x = true
  ·rw [if_pos hc, if_pos (fits_small (by simp; omega))]
   obtain ⟨d, out, g1, g2, g3⟩ := put_loop h0 h1 l (k + 1) v2 (w2 ++ [x]) (by
    simp only [List.length_append, List.length_singleton]
    omega)
   refine ⟨d, out, g1, ?_, fun y hy => ?_⟩
   ·simp only [List.length_append, List.length_cons, List.length_singleton, List.length_nil] at g2 ⊢
    omega
   ·rcases g3 y hy with h | h | h
    ·rcases List.mem_append.1 h with h | h
     ·rcases q2 y h with h | h <;> simp [h]
     ·simp at h; simp [h]
    ·simp [h]
    ·simp [h]
  ·rw [if_neg hc]
   obtain ⟨d, out, g1, g2, g3⟩ := put_loop h0 h1 l (k + 1) v2 w2 (by omega)
   refine ⟨d, out, g1, ?_, fun y hy => ?_⟩
   ·simp only [List.length_cons] at g2 ⊢
    omega
   ·rcases g3 y hy with h | h | h
    ·rcases q2 y h with h | h <;> simp [h]
    ·simp [h]
    ·simp [h]
theorem put_end {α : Type} {f : α} {xs : List α} {z : Option (Bool × List α)} (hl : xs.length + 1 ≤ 1048576) (h : ∃ d out, z = some (d, out) ∧ out.length + (if d then 0 else 1) ≤ xs.length + 1 ∧ ∀ y ∈ out, y ∈ xs ∨ y = f) :
  ∃ out, (if fits xs.length = true then (z.bind fun q => if (!q.1) = true then (if fits (q.2 ++ [f]).length = true then some (q.2 ++ [f]) else none) else some q.2) else none) = some out ∧ out.length ≤ xs.length + 1 ∧ ∀ y ∈ out, y ∈ xs ∨ y = f := by
 obtain ⟨d, out, rfl, h1, h2⟩ := h
 rw [if_pos (fits_small (by omega)), Option.bind_some]
 cases d
 ·simp only [Bool.not_false, if_true]
  simp at h1
  rw [if_pos (fits_small (by simp; omega))]
  exact ⟨_, rfl, by simp; omega, fun y hy => by
   rcases List.mem_append.1 hy with h | h
   ·exact h2 y h
   ·simp at h; exact .inr h⟩
 ·simp at h1
  exact ⟨out, rfl, h1, h2⟩
theorem dr_l3Put {s : List Feat} {f : Feat} (h : s.length ≤ 1000) : ∃ out, gf_di9 s f = some out ∧ out.length ≤ s.length + 1 ∧ ∀ y ∈ out, y ∈ s ∨ y = f := by
 unfold gf_di9
 refine put_end (by omega) ?_
 obtain ⟨d, out, h1, h2, h3⟩ := put_loop (gl := gl_di9_1 f) (f := f) (c1 := fun x => !slt x.id f.id) (c2 := fun x => !seq x.id f.id) (fun _ _ _ => rfl) (fun _ _ _ _ _ => rfl) s 0 false [] (by simp; omega)
 exact ⟨d, out, h1, by simpa using h2, fun y hy => by simpa using h3 y hy⟩
theorem dr_l3Put_xl {s : List Feat} {f : Feat} (h : s.length ≤ 1000) : ∃ out, gf_dj9 s f = some out ∧ out.length ≤ s.length + 1 ∧ ∀ y ∈ out, y ∈ s ∨ y = f := by
 unfold gf_dj9
 refine put_end (by omega) ?_
 obtain ⟨d, out, h1, h2, h3⟩ := put_loop (gl := gl_dj9_1 f) (f := f) (c1 := fun x => !slt x.id f.id) (c2 := fun x => !seq x.id f.id) (fun _ _ _ => rfl) (fun _ _ _ _ _ => rfl) s 0 false [] (by simp; omega)
 exact ⟨d, out, h1, by simpa using h2, fun y hy => by simpa using h3 y hy⟩
theorem dr_l2Put {s : List Tag} {a b : Str} (h : s.length ≤ 1000) : ∃ out, gf_da9 s a b = some out ∧ out.length ≤ s.length + 1 ∧ ∀ y ∈ out, y ∈ s ∨ y = ⟨a, b⟩ := by
 unfold gf_da9
 refine put_end (by omega) ?_
 obtain ⟨d, out, h1, h2, h3⟩ := put_loop (gl := gl_da9_1 a b) (f := (⟨a, b⟩ : Tag)) (c1 := fun x => !slt x.key a) (c2 := fun x => !seq x.key a) (fun _ _ _ => rfl) (fun _ _ _ _ _ => rfl) s 0 false [] (by simp; omega)
 exact ⟨d, out, h1, by simpa using h2, fun y hy => by simpa using h3 y hy⟩
def bF (k : Nat) (f : Feat) : Prop := (f.id.size ≤ 7 ∧ f.id.size ≠ 2) ∧ f.shape.pts.length ≤ 20 + k ∧ f.tags.length ≤ 20 + k ∧ ∀ t ∈ f.tags, t.key.size ≤ 7 ∧ t.val.size ≤ 7
def bS (k : Nat) (s : List Feat) : Prop := s.length ≤ 20 + k ∧ ∀ f ∈ s, bF k f
theorem bF_up {k : Nat} {f : Feat} (h : bF k f) : bF (k + 1) f := ⟨h.1, by have := h.2.1; omega, by have := h.2.2.1; omega, h.2.2.2⟩
theorem sum_le2 {α : Type} {w : α → Nat} {n : Nat} : ∀ {xs : List α}, (∀ x ∈ xs, w x ≤ n) → sumW w xs ≤ n * xs.length
 | [], h => by simp [sumW]
 | x :: xs, h => by
  have h1 := h x (by simp)
  have h2 := sum_le2 (xs := xs) (n := n) fun y hy => h y (by simp [hy])
  simp only [sumW, List.length_cons, Nat.mul_add, Nat.mul_one]
  omega
theorem bF_w {k : Nat} {f : Feat} (h : bF k f) (hk : k ≤ 4) : wFeat f ≤ 400 := by
 obtain ⟨⟨h1, _⟩, h2, h3, h4⟩ := h
 have := sum_le2 (w := wTag) (n := 14) (xs := f.tags) fun t ht => by have := h4 t ht; unfold wTag; omega
 unfold wFeat wShape wL
 rw [sum_w0]
 omega
theorem bS_w {k : Nat} {s : List Feat} (h : bS k s) (hk : k ≤ 4) : wL wFeat s ≤ 10000 := by
 have h1 := h.1
 have := sum_le2 (w := wFeat) (n := 400) (xs := s) fun f hf => bF_w (h.2 f hf) hk
 unfold wL
 omega
theorem dr_l2Id : Drw gf_cy9 1 fun s => s.size ≤ 7 ∧ s.size ≠ 2 := fun b p hb h0 hp => by
 unfold gf_cy9
 obtain ⟨x, p1, h1, a1, b1, hx⟩ := dr_of (l := _) (List.cons_ne_nil _ _) b p hb h0 hp
 simp only at h1
 rw [h1]
 exact ⟨x, p1, rfl, a1, b1, (by decide : ∀ y ∈ _, y.size ≤ 7 ∧ y.size ≠ 2) x hx⟩
theorem dr_l2Key : Drw gf_cz9 1 fun s => s.size ≤ 7 := fun b p hb h0 hp => by
 unfold gf_cz9
 obtain ⟨x, p1, h1, a1, b1, hx⟩ := dr_of (l := _) (List.cons_ne_nil _ _) b p hb h0 hp
 simp only at h1
 rw [h1]
 exact ⟨x, p1, rfl, a1, b1, (by decide : ∀ y ∈ _, y.size ≤ 7) x hx⟩
theorem dr_l2Val : Drw gf_dd9 1 fun s => s.size ≤ 7 := fun b p hb h0 hp => by
 unfold gf_dd9
 obtain ⟨x, p1, h1, a1, b1, hx⟩ := dr_of (l := _) (List.cons_ne_nil _ _) b p hb h0 hp
 simp only at h1
 rw [h1]
 exact ⟨x, p1, rfl, a1, b1, (by decide : ∀ y ∈ _, y.size ≤ 7) x hx⟩
theorem dr_l7Name : Drw gf_dv9 1 fun s => s ∈ [(⟨#[109, 97, 105, 110]⟩ : Str), (⟨#[97, 110, 110]⟩ : Str), (⟨#[98, 111, 98]⟩ : Str)] := fun b p hb h0 hp => by
 unfold gf_dv9
 obtain ⟨x, p1, h1, a1, b1, hx⟩ := dr_of (l := _) (List.cons_ne_nil _ _) b p hb h0 hp
 simp only at h1
 rw [h1]
 exact ⟨x, p1, rfl, a1, b1, hx⟩
abbrev onS : Str := ⟨#[111, 110]⟩
def nt (s : Str) : Prop := s.size ≤ 7 ∧ s ≠ onS
theorem nt_of {s : Str} (h : (decide (s.size ≤ 7) && !decide (s = onS)) = true) : nt s := by simpa [nt] using h
theorem dr_l7Note : Drw gf_dw9 1 fun s => nt s := fun b p hb h0 hp => by
 unfold gf_dw9
 obtain ⟨x, p1, h1, a1, b1, hx⟩ := dr_of (l := _) (List.cons_ne_nil _ _) b p hb h0 hp
 simp only at h1
 rw [h1]
 refine ⟨x, p1, rfl, a1, b1, nt_of ?_⟩
 simp only [List.mem_cons, List.not_mem_nil, or_false] at hx
 rcases hx with rfl | rfl | rfl <;> decide
theorem dr_l1Bent : Drw gf_cn9 33 fun s => s.pts.length ≤ 13 := fun b p hb h0 hp => by
 obtain ⟨s, p1, h1, a1, b1, hs1, hs2⟩ := dr_l1Shape b p hb h0 (by omega)
 obtain ⟨k, p2, h2, a2, b2, hk1, hk2⟩ := dr_pick (n := (s.pts.length : Int)) b p1 hb (by omega) (by omega)
 obtain ⟨c, p3, h3, a3, b3, _⟩ := dr_pick (n := 40) b p2 hb (by omega) (by omega)
 have hk2 := hk2 (by omega)
 unfold gf_cn9
 simp only at h2 h3
 simp only [h1, Option.bind_some, h2, h3]
 obtain ⟨y, hy⟩ := getI (xs := s.pts) (i := k.toNat) (by omega)
 have hy' : idx s.pts k = some y := by rw [idx_int hk1]; exact hy
 by_cases c0 : (c == 0) = true
 ·rw [if_pos c0]
  obtain ⟨x, p4, h4, a4, b4, _⟩ := dr_num (l := [0, 4, 1, 2, 3]) (by simp) b p3 hb (by omega) (by omega)
  simp only at h4
  rw [h4]
  exact ⟨_, p4, rfl, by omega, by omega, by simp only; omega⟩
 rw [if_neg c0]
 by_cases c1 : (c == 1) = true
 ·rw [if_pos c1]
  obtain ⟨x, p4, h4, a4, b4, _⟩ := dr_num (l := [1000, 1001, -1001]) (by simp) b p3 hb (by omega) (by omega)
  simp only at h4
  rw [h4, Option.bind_some, hy']
  exact ⟨_, p4, rfl, by omega, by omega, by simp only [List.length_set]; omega⟩
 rw [if_neg c1]
 by_cases c2 : (c == 2) = true
 ·rw [if_pos c2, wrap_pred (by omega) (by omega), idx_nat]
  obtain ⟨z, hz⟩ := getI (xs := s.pts) (i := s.pts.length - 1) (by omega)
  rw [hz, Option.bind_some, if_pos (fits_small (by simp; omega))]
  exact ⟨_, p3, rfl, by omega, by omega, by simp; omega⟩
 rw [if_neg c2]
 by_cases c3 : (c == 3) = true
 ·rw [if_pos c3]
  unfold slc
  rw [if_pos ⟨by omega, hk1, by omega⟩]
  exact ⟨_, p3, rfl, by omega, by omega, by simp; omega⟩
 rw [if_neg c3]
 exact ⟨_, p3, rfl, by omega, by omega, by omega⟩
def bT (n : Nat) (ts : List Tag) : Prop := ts.length ≤ n ∧ ∀ t ∈ ts, t.key.size ≤ 7 ∧ t.val.size ≤ 7
theorem l2Feat_loop (a : Rd) (hb : a.b.length ≤ 2000) : ∀ (m n : Nat) (i p : Int) (ts : List Tag) (q : Nat), m < n → i = m → bT q ts → q + m ≤ 100 → 0 ≤ p → p + 2 * m ≤ 100000 → m ≤ 100 → ∃ ts' p', gl_cx9_1 a n i p ts = some (ts', p') ∧ p ≤ p' ∧ p' ≤ p + 2 * m ∧ bT (q + m) ts'
 | _, 0, _, _, _, _, h, _, _, _, _, _, _ => by omega
 | 0, n + 1, i, p, ts, q, h, hi, ht, hq, hp, hk, hm => by
  unfold gl_cx9_1
  rw [if_neg (by simp; omega)]
  exact ⟨ts, p, rfl, by omega, by omega, ht⟩
 | m + 1, n + 1, i, p, ts, q, h, hi, ht, hq, hp, hk, hm => by
  unfold gl_cx9_1
  rw [if_pos (by simp; omega)]
  obtain ⟨k, p1, h1, a1, b1, c1⟩ := dr_l2Key a.b p hb hp (by omega)
  obtain ⟨v, p2, h2, a2, b2, c2⟩ := dr_l2Val a.b p1 hb (by omega) (by omega)
  obtain ⟨o, h3, h4, h5⟩ := dr_l2Put (s := ts) (a := k) (b := v) (by have := ht.1; omega)
  simp only [h1, Option.bind_some, h2, h3]
  rw [wrap_id (by omega) (by omega)]
  have ht1 : ts.length ≤ q := ht.1
  have ho : o.length ≤ q + 1 := by omega
  obtain ⟨ts', p', g1, g2, g3, g4⟩ := l2Feat_loop a hb m n (i - 1) p2 o (q + 1) (by omega) (by omega) ⟨ho, fun t hh => by
   rcases h5 t hh with h | h
   ·exact ht.2 t h
   ·subst h; exact ⟨c1, c2⟩⟩ (by omega) (by omega) (by omega) (by omega)
  exact ⟨ts', p', g1, by omega, by omega, by rw [show q + (m + 1) = q + 1 + m by omega]; exact g4⟩
theorem dr_l2Feat {id : Str} (hid : id.size ≤ 7 ∧ id.size ≠ 2) : Drw (fun r => gf_cx9 r id) 40 fun f => (f.id.size ≤ 7 ∧ f.id.size ≠ 2) ∧ f.shape.pts.length ≤ 12 ∧ bT 4 f.tags := fun b p hb h0 hp => by
 obtain ⟨s, p1, h1, a1, b1, hs1, hs2⟩ := dr_l1Shape b p hb h0 (by omega)
 obtain ⟨k, p2, h2, a2, b2, hk1, hk2⟩ := dr_pick (n := 4) b p1 hb (by omega) (by omega)
 have hk2 := hk2 (by omega)
 simp only [gf_cx9]
 simp only at h2
 simp only [h1, Option.bind_some, h2]
 obtain ⟨ts, p3, h3, a3, b3, c3⟩ := l2Feat_loop ⟨b, p⟩ hb k.toNat rounds k p2 [] 0 (by unfold rounds; omega) (by omega) ⟨by simp, by simp⟩ (by omega) (by omega) (by omega) (by omega)
 rw [h3]
 exact ⟨_, p3, rfl, by omega, by omega, hid, hs2, (show ts.length ≤ 4 by have h := c3.1; have h' : ts.length ≤ 0 + k.toNat := h; omega), c3.2⟩
theorem dr_l2Bent : Drw gf_cv9 80 fun f => bF 0 f := fun b p hb h0 hp => by
 obtain ⟨i, p1, h1, a1, b1, hi⟩ := dr_l2Id b p hb h0 (by omega)
 obtain ⟨f, p2, h2, a2, b2, f1, f2, f3, f4⟩ := dr_l2Feat hi b p1 hb (by omega) (by omega)
 obtain ⟨c, p3, h3, a3, b3, _⟩ := dr_pick (n := 40) b p2 hb (by omega) (by omega)
 unfold gf_cv9
 simp only at h2 h3
 simp only [h1, Option.bind_some, h2, h3]
 by_cases c0 : (c == 0) = true
 ·rw [if_pos c0]
  obtain ⟨x, p4, h4, a4, b4, hx⟩ := dr_of (l := [(⟨#[]⟩ : Str), (⟨#[65]⟩ : Str), (⟨#[97, 98, 99, 100, 101, 102, 103]⟩ : Str)]) (by simp) b p3 hb (by omega) (by omega)
  simp only at h4
  rw [h4]
  exact ⟨_, p4, rfl, by omega, by omega, (by decide : ∀ y ∈ [(⟨#[]⟩ : Str), (⟨#[65]⟩ : Str), (⟨#[97, 98, 99, 100, 101, 102, 103]⟩ : Str)], y.size ≤ 7 ∧ y.size ≠ 2) x hx, by simp only; omega, by simp only; omega, f4⟩
 rw [if_neg c0]
 by_cases c1 : (c == 1) = true
 ·rw [if_pos c1]
  obtain ⟨x, p4, h4, a4, b4, hx⟩ := dr_l1Bent b p3 hb (by omega) (by omega)
  rw [h4]
  exact ⟨_, p4, rfl, by omega, by omega, f1, by simp only; omega, by simp only; omega, f4⟩
 rw [if_neg c1]
 by_cases c2 : (c == 2) = true
 ·rw [if_pos c2, if_pos (fits_small (by simp; omega))]
  refine ⟨_, p3, rfl, by omega, by omega, f1, by simp only; omega, by simp; omega, fun t ht => ?_⟩
  rcases List.mem_append.1 ht with h | h
  ·exact f4 t h
  ·simp only [List.mem_singleton] at h; subst h; exact ⟨by decide, by decide⟩
 rw [if_neg c2]
 by_cases c3 : (c == 3) = true
 ·rw [if_pos c3]
  obtain ⟨x, p4, h4, a4, b4, hx⟩ := dr_of (l := [(⟨#[]⟩ : Str), (⟨#[66]⟩ : Str)]) (by simp) b p3 hb (by omega) (by omega)
  simp only at h4
  rw [h4, Option.bind_some, if_pos (fits_small (by simp; omega))]
  refine ⟨_, p4, rfl, by omega, by omega, f1, by simp only; omega, by simp; omega, fun t ht => ?_⟩
  rcases List.mem_append.1 ht with h | h
  ·exact f4 t h
  ·simp only [List.mem_singleton] at h; subst h; exact ⟨(by decide : (⟨#[122, 122]⟩ : Str).size ≤ 7), (by decide : ∀ y ∈ [(⟨#[]⟩ : Str), (⟨#[66]⟩ : Str)], y.size ≤ 7) x hx⟩
 rw [if_neg c3]
 exact ⟨_, p3, rfl, by omega, by omega, f1, by simp only; omega, by simp only; omega, f4⟩
theorem l3Sheet_loop (a : Rd) (hb : a.b.length ≤ 2000) : ∀ (m n : Nat) (i p : Int) (s : List Feat), m < n → i = m → (s.length + m ≤ 20 ∧ ∀ f ∈ s, bF 0 f) → 0 ≤ p → p + 41 * m ≤ 100000 → ∃ s' p', gl_dk9_1 a n i p s = some (s', p') ∧ p ≤ p' ∧ p' ≤ p + 41 * m ∧ s'.length ≤ s.length + m ∧ ∀ f ∈ s', bF 0 f
 | _, 0, _, _, _, h, _, _, _, _ => by omega
 | 0, n + 1, i, p, s, h, hi, hs, hp, hk => by
  unfold gl_dk9_1
  rw [if_neg (by simp; omega)]
  exact ⟨s, p, rfl, by omega, by omega, by omega, hs.2⟩
 | m + 1, n + 1, i, p, s, h, hi, hs, hp, hk => by
  unfold gl_dk9_1
  rw [if_pos (by simp; omega)]
  obtain ⟨k, p1, h1, a1, b1, c1⟩ := dr_l2Id a.b p hb hp (by omega)
  obtain ⟨f, p2, h2, a2, b2, f1, f2, f3, f4⟩ := dr_l2Feat c1 a.b p1 hb (by omega) (by omega)
  have hs1 := hs.1
  obtain ⟨o, h3, h4, h5⟩ := dr_l3Put_xl (s := s) (f := f) (by omega)
  simp only at h2
  simp only [h1, Option.bind_some, h2, h3]
  rw [wrap_id (by omega) (by omega)]
  obtain ⟨s', p', g1, g2, g3, g4, g5⟩ := l3Sheet_loop a hb m n (i - 1) p2 o (by omega) (by omega) ⟨by omega, fun t hh => by
   rcases h5 t hh with h | h
   ·exact hs.2 t h
   ·subst h; exact ⟨f1, by omega, by omega, f4⟩⟩ (by omega) (by omega)
  exact ⟨s', p', g1, by omega, by omega, by omega, g5⟩
theorem dr_l3Sheet : Drw gf_dk9 170 fun s => s.length ≤ 4 ∧ ∀ f ∈ s, bF 0 f := fun b p hb h0 hp => by
 obtain ⟨k, p2, h2, a2, b2, hk1, hk2⟩ := dr_pick (n := 5) b p hb (by omega) (by omega)
 have hk2 := hk2 (by omega)
 unfold gf_dk9
 simp only at h2
 simp only [h2, Option.bind_some]
 obtain ⟨s, p3, h3, a3, b3, c3, d3⟩ := l3Sheet_loop ⟨b, p⟩ hb k.toNat rounds k p2 [] (by unfold rounds; omega) (by omega) ⟨by simp; omega, by simp⟩ (by omega) (by omega)
 rw [h3]
 simp only [List.length_nil] at c3
 exact ⟨s, p3, rfl, by omega, by omega, by omega, d3⟩
theorem l3Bent_loop : ∀ (m n : Nat) (i : Int) (s : List Feat), m < n → 0 ≤ i → i + m = 9 → (s.length + m ≤ 20 ∧ ∀ f ∈ s, bF 0 f) → ∃ s', gl_de9_1 n i s = some s' ∧ s'.length ≤ s.length + m ∧ ∀ f ∈ s', bF 0 f
 | _, 0, _, _, h, _, _, _ => by omega
 | 0, n + 1, i, s, h, h0, hi, hs => by
  unfold gl_de9_1
  rw [if_neg (by simp; omega)]
  exact ⟨s, rfl, by omega, hs.2⟩
 | m + 1, n + 1, i, s, h, h0, hi, hs => by
  unfold gl_de9_1
  rw [if_pos (by simp; omega), wrap_id (by omega) (by omega)]
  have hs1 := hs.1
  have hz : (⟨#[113, 114, 115, 116, 117, 118, 119, 120, 121, 122]⟩ : Str).size = 10 := by decide
  have hx : ∃ x : Str, sslc (⟨#[113, 114, 115, 116, 117, 118, 119, 120, 121, 122]⟩ : Str) i (i + 1) = some x ∧ x.size ≤ 7 ∧ x.size ≠ 2 := by
   unfold sslc
   rw [if_pos ⟨h0, by omega, by rw [hz]; omega⟩]
   refine ⟨_, rfl, ?_⟩
   rw [ByteArray.size_extract, hz]
   omega
  obtain ⟨x, hx1, hx2⟩ := hx
  obtain ⟨o, h3, h4, h5⟩ := dr_l3Put_xl (s := s) (f := ⟨x, ⟨1, [⟨0, 0⟩]⟩, []⟩) (by omega)
  rw [hx1, Option.bind_some, h3, Option.bind_some]
  obtain ⟨s', g1, g2, g3⟩ := l3Bent_loop m n (i + 1) o (by omega) (by omega) (by omega) ⟨by omega, fun t hh => by
   rcases h5 t hh with h | h
   ·exact hs.2 t h
   ·subst h; exact ⟨hx2, by simp, by simp, by simp⟩⟩
  exact ⟨s', g1, by omega, g3⟩
theorem dr_l3Bent : Drw gf_de9 260 fun s => bS 0 s := fun b p hb h0 hp => by
 obtain ⟨s, p1, h1, a1, b1, hs1, hs2⟩ := dr_l3Sheet b p hb h0 (by omega)
 obtain ⟨c, p2, h2, a2, b2, _⟩ := dr_pick (n := 40) b p1 hb (by omega) (by omega)
 unfold gf_de9
 simp only at h2
 simp only [h1, Option.bind_some, h2]
 by_cases c0 : (c == 0) = true
 ·rw [if_pos c0]
  obtain ⟨f, p3, h3, a3, b3, hf⟩ := dr_l2Bent b p2 hb (by omega) (by omega)
  rw [h3, Option.bind_some, if_pos (fits_small (by simp; omega))]
  refine ⟨_, p3, rfl, by omega, by omega, by simp; omega, fun t ht => ?_⟩
  rcases List.mem_append.1 ht with h | h
  ·exact hs2 t h
  ·simp only [List.mem_singleton] at h; subst h; exact hf
 rw [if_neg c0]
 by_cases c1 : (c == 1) = true
 ·rw [if_pos c1, if_pos (fits_small (by simp; omega))]
  exact ⟨_, p2, rfl, by omega, by omega, by simp; omega, fun t ht => by rcases List.mem_append.1 ht with h | h <;> exact hs2 t h⟩
 rw [if_neg c1]
 by_cases c2 : (c == 2) = true
 ·rw [if_pos c2]
  obtain ⟨s', g1, g2, g3⟩ := l3Bent_loop 9 rounds 0 s (by decide) (by omega) (by omega) ⟨by omega, hs2⟩
  rw [g1]
  exact ⟨s', p2, rfl, by omega, by omega, by omega, g3⟩
 rw [if_neg c2]
 exact ⟨s, p2, rfl, by omega, by omega, by omega, hs2⟩
theorem p_l4Bend {s : Shape} {k : Nat} (hs : s.pts.length ≤ 20 + k) (hk : k ≤ 4) : Drw (fun r => gf_dl9 r s) 4 fun z => z.pts.length ≤ 20 + (k + 1) := fun b p hb h0 hp => by
 simp only [gf_dl9]
 by_cases hz : s.pts.length = 0
 ·rw [if_pos (by simp [hz])]
  exact ⟨s, p, rfl, by omega, by omega, by omega⟩
 rw [if_neg (by simpa using hz)]
 obtain ⟨x, p1, h1, a1, b1, hx1, hx2⟩ := dr_pick (n := (s.pts.length : Int)) b p hb h0 (by omega)
 have hx2 := hx2 (by omega)
 obtain ⟨c, p2, h2, a2, b2, _⟩ := dr_pick (n := 3) b p1 hb (by omega) (by omega)
 obtain ⟨t, p3, h3, a3, b3, _⟩ := dr_l1Pt b p2 hb (by omega) (by omega)
 simp only at h1 h2
 have e1 : slc s.pts 0 x = some (s.pts.take x.toNat) := by
  unfold slc
  rw [if_pos ⟨by omega, hx1, by omega⟩]
  simp
 have e2 : slc s.pts x (s.pts.length : Int) = some (s.pts.drop x.toNat) := by
  unfold slc
  rw [if_pos ⟨hx1, by omega, by omega⟩]
  simp
 have e3 : slc s.pts (x + 1) (s.pts.length : Int) = some (s.pts.drop (x.toNat + 1)) := by
  unfold slc
  rw [if_pos ⟨by omega, by omega, by omega⟩]
  have : (x + 1).toNat = x.toNat + 1 := by omega
  simp [this]
 rw [h1, Option.bind_some, e1, Option.bind_some, if_pos (fits_small (by simp; omega)), h2, Option.bind_some]
 have key : ∃ q p4, (if (c == 0) = true then ((gf_cr9 (⟨b, p2⟩ : Rd)).bind fun x43 => if fits (([] ++ s.pts.take x.toNat) ++ ([x43.1] : (List Pt))).length = true then (slc s.pts x (s.pts.length : Int)).bind fun x49 => if fits ((([] ++ s.pts.take x.toNat) ++ ([x43.1] : (List Pt))) ++ x49).length = true then some (((([] ++ s.pts.take x.toNat) ++ ([x43.1] : (List Pt))) ++ x49), x43.2) else none else none) else (if (c == 1) = true then ((slc s.pts (IntKind.i64.wrap (x + 1)) (s.pts.length : Int)).bind fun x54 => if fits (([] ++ s.pts.take x.toNat) ++ x54).length = true then some ((([] ++ s.pts.take x.toNat) ++ x54), p2) else none) else ((gf_cr9 (⟨b, p2⟩ : Rd)).bind fun x59 => if fits (([] ++ s.pts.take x.toNat) ++ ([x59.1] : (List Pt))).length = true then (slc s.pts (IntKind.i64.wrap (x + 1)) (s.pts.length : Int)).bind fun x65 => if fits ((([] ++ s.pts.take x.toNat) ++ ([x59.1] : (List Pt))) ++ x65).length = true then some (((([] ++ s.pts.take x.toNat) ++ ([x59.1] : (List Pt))) ++ x65), x59.2) else none else none)) : Option ((List Pt) × Int)) = some (q, p4) ∧ q.length ≤ s.pts.length + 1 ∧ p2 ≤ p4 ∧ p4 ≤ p2 + 2 := by
  rw [wrap_id (n := x + 1) (by omega) (by omega)]
  split
  ·rw [h3, Option.bind_some, if_pos (fits_small (by simp; omega)), e2, Option.bind_some, if_pos (fits_small (by simp; omega))]
   exact ⟨_, _, rfl, by simp; omega, a3, b3⟩
  ·split
   ·rw [e3, Option.bind_some, if_pos (fits_small (by simp; omega))]
    exact ⟨_, _, rfl, by simp; omega, by omega, by omega⟩
   ·rw [h3, Option.bind_some, if_pos (fits_small (by simp; omega)), e3, Option.bind_some, if_pos (fits_small (by simp; omega))]
    exact ⟨_, _, rfl, by simp; omega, a3, b3⟩
 obtain ⟨q, p4, g1, g2, g3, g4⟩ := key
 rw [g1, Option.bind_some, s_ShapeOk (by simp only; omega), Option.bind_some]
 by_cases ho : (!mShape ⟨s.kind, q⟩) = true
 ·rw [if_pos ho]
  exact ⟨s, p4, rfl, by omega, by omega, by omega⟩
 ·rw [if_neg ho]
  exact ⟨⟨s.kind, q⟩, p4, rfl, by omega, by omega, by simp only; omega⟩
theorem allF {α : Type} {p : α → Nat → Bool} {l : List α} {k : Nat} (h : allFrom p l k = true) {x : α} (hx : x ∈ l) : ∃ j, p x j = true := by
 obtain ⟨j, hj⟩ := List.getElem?_of_mem hx
 exact ⟨_, allFrom_get h j x hj⟩
theorem mWord_size {s : Str} (h : mWord s = true) : s.size ≤ 7 := by
 simp only [mWord, Bool.and_eq_true, decide_eq_true_eq] at h
 omega
theorem mSheet_bS {s : List Feat} (hn : ∀ f ∈ s, f.id.size ≠ 2) (h : mSheet s = true) : bS 0 s := by
 simp only [mSheet, Bool.and_eq_true, decide_eq_true_eq] at h
 refine ⟨by omega, fun f hf => ?_⟩
 obtain ⟨j, hj⟩ := allF h.1 hf
 simp only [Bool.and_eq_true] at hj
 have h1 := hj.1
 simp only [mFeat, mShape, mTags, Bool.and_eq_true, decide_eq_true_eq] at h1
 refine ⟨⟨mWord_size h1.1, hn f hf⟩, by omega, by omega, fun t ht => ?_⟩
 obtain ⟨i, hi⟩ := allF h1.2.2.1 ht
 simp only [Bool.and_eq_true] at hi
 exact ⟨mWord_size hi.1, mWord_size hi.2.1⟩
theorem cut_loop {c : Feat → Bool} {gl : List Feat → Nat → List Feat → Option (List Feat)} (h0 : ∀ k v, gl [] k v = some v) (h1 : ∀ x l k v, gl (x :: l) k v = if c x = true then (if fits (v ++ [x]).length = true then gl l (k + 1) (v ++ [x]) else none) else gl l (k + 1) v) : ∀ (l : List Feat) (k : Nat) (v : List Feat), v.length + l.length ≤ 1000 → ∃ o, gl l k v = some o ∧ o.length ≤ v.length + l.length ∧ ∀ y ∈ o, y ∈ v ∨ y ∈ l
 | [], k, v, hl => ⟨v, h0 k v, by simp, fun y hy => .inl hy⟩
 | x :: l, k, v, hl => by
  simp only [List.length_cons] at hl
  rw [h1]
  by_cases hc : c x = true
  ·rw [if_pos hc, if_pos (fits_small (by simp; omega))]
   obtain ⟨o, g1, g2, g3⟩ := cut_loop h0 h1 l (k + 1) (v ++ [x]) (by simp; omega)
   refine ⟨o, g1, by simp only [List.length_append, List.length_cons, List.length_nil] at g2 ⊢; omega, fun y hy => ?_⟩
   rcases g3 y hy with h | h
   ·rcases List.mem_append.1 h with h | h
    ·exact .inl h
    ·simp at h; simp [h]
   ·simp [h]
  ·rw [if_neg hc]
   obtain ⟨o, g1, g2, g3⟩ := cut_loop h0 h1 l (k + 1) v (by omega)
   exact ⟨o, g1, by simp only [List.length_cons]; omega, fun y hy => (g3 y hy).imp id fun h => by simp [h]⟩
theorem dr_l3Cut {s : List Feat} {id : Str} (h : s.length ≤ 1000) : ∃ o, gf_dg9 s id = some o ∧ o.length ≤ s.length ∧ ∀ y ∈ o, y ∈ s := by
 unfold gf_dg9
 rw [if_pos (fits_small (by omega))]
 obtain ⟨o, h1, h2, h3⟩ := cut_loop (gl := gl_dg9_1 id) (c := fun x => !seq x.id id) (fun _ _ => rfl) (fun _ _ _ _ => rfl) s 0 [] (by simp; omega)
 rw [h1]
 exact ⟨o, rfl, by simpa using h2, fun y hy => by simpa using h3 y hy⟩
theorem fst_range {α : Type} {p : α → Bool} : ∀ {l : List α} {k : Nat}, fstFrom p l k = -1 ∨ (k : Int) ≤ fstFrom p l k ∧ fstFrom p l k < (k + l.length : Nat)
 | [], k => .inl rfl
 | x :: l, k => by
  simp only [fstFrom]
  split
  ·exact .inr ⟨by omega, by simp only [List.length_cons]; omega⟩
  ·rcases fst_range (p := p) (l := l) (k := k + 1) with h | h
   ·exact .inl h
   ·exact .inr ⟨by omega, by simp only [List.length_cons]; omega⟩
theorem dr_l3Find {s : List Feat} {id : Str} (h : s.length ≤ 1000) : ∃ v, gf_dh9 s id = some v ∧ (v < 0 ∨ 0 ≤ v ∧ v < s.length) := by
 unfold gf_dh9
 rw [if_pos (fits_small (by omega))]
 refine ⟨_, loopF (gl := gl_dh9_1 id) (p := fun x => seq x.id id) (ok := fun _ => True) (fun _ => rfl) (fun _ _ _ _ => rfl) s 0 (fun _ _ => trivial), ?_⟩
 rcases fst_range (p := fun x : Feat => seq x.id id) (l := s) (k := 0) with h | h
 ·left; omega
 ·right; simpa using h
theorem l4Near_loop (a : Rd) (hb : a.b.length ≤ 2000) : ∀ (m n : Nat) (s : List Feat) (i p : Int) (k : Nat), m < n → i = m → bS k s → k + m ≤ 3 → 0 ≤ p → p + 50 * m ≤ 100000 → ∃ s' p', gl_dm9_1 a n s i p = some (s', p') ∧ p ≤ p' ∧ p' ≤ p + 50 * m ∧ bS (k + m) s'
 | _, 0, _, _, _, _, h, _, _, _, _, _ => by omega
 | 0, n + 1, s, i, p, k, h, hi, hs, hk, hp, hq => by
  unfold gl_dm9_1
  rw [if_neg (by simp; omega)]
  exact ⟨s, p, rfl, by omega, by omega, hs⟩
 | m + 1, n + 1, s, i, p, k, h, hi, hs, hk, hp, hq => by
  unfold gl_dm9_1
  rw [if_pos (by simp; omega), wrap_id (n := i - 1) (by omega) (by omega)]
  have hs1 : s.length ≤ 20 + k := hs.1
  have step : ∀ (f : Feat) (p1 : Int), bF (k + 1) f → p ≤ p1 → p1 ≤ p + 50 → ∃ o s' p', gf_di9 s f = some o ∧ gl_dm9_1 a n o (i - 1) p1 = some (s', p') ∧ p ≤ p' ∧ p' ≤ p + 50 * (m + 1) ∧ bS (k + (m + 1)) s' := fun f p1 hf q1 q2 => by
   obtain ⟨o, o1, o2, o3⟩ := dr_l3Put (s := s) (f := f) (by omega)
   obtain ⟨s', p', g1, g2, g3, g4⟩ := l4Near_loop a hb m n o (i - 1) p1 (k + 1) (by omega) (by omega) ⟨by omega, fun t ht => by
    rcases o3 t ht with h | h
    ·exact bF_up (hs.2 t h)
    ·subst h; exact hf⟩ (by omega) (by omega) (by omega)
   exact ⟨o, s', p', o1, g1, by omega, by omega, by rw [show k + (m + 1) = k + 1 + m by omega]; exact g4⟩
  obtain ⟨id, p1, h1, a1, b1, c1⟩ := dr_l2Id a.b p hb hp (by omega)
  obtain ⟨v, h2, hv⟩ := dr_l3Find (s := s) (id := id) (by omega)
  rw [h1, Option.bind_some]
  simp only
  rw [h2, Option.bind_some]
  by_cases hneg : v < 0
  ·rw [if_pos (by simpa using hneg)]
   obtain ⟨f, p2, h3, a3, b3, f1, f2, f3, f4⟩ := dr_l2Feat c1 a.b p1 hb (by omega) (by omega)
   simp only at h3
   obtain ⟨o, s', p', e1, e2, e3, e4, e5⟩ := step f p2 ⟨f1, by omega, by omega, f4⟩ (by omega) (by omega)
   simp only [h3, Option.bind_some, e1]
   exact ⟨s', p', e2, e3, by omega, e5⟩
  ·rw [if_neg (by simpa using hneg)]
   have hv := hv.resolve_left hneg
   obtain ⟨c, p2, h3, a3, b3, _⟩ := dr_pick (n := 4) a.b p1 hb (by omega) (by omega)
   simp only at h3
   rw [h3, Option.bind_some]
   simp only
   obtain ⟨f, hf⟩ := getI (xs := s) (i := v.toNat) (by omega)
   have hf' : idx s v = some f := by rw [idx_int hv.1]; exact hf
   have hbf := hs.2 f (List.mem_of_getElem? hf)
   by_cases c0 : (c == 0) = true
   ·rw [if_pos c0]
    obtain ⟨o, o1, o2, o3⟩ := dr_l3Cut (s := s) (id := id) (by omega)
    rw [o1, Option.bind_some]
    obtain ⟨s', p', g1, g2, g3, g4⟩ := l4Near_loop a hb m n o (i - 1) p2 (k + 1) (by omega) (by omega) ⟨by omega, fun t ht => bF_up (hs.2 t (o3 t ht))⟩ (by omega) (by omega) (by omega)
    exact ⟨s', p', g1, by omega, by omega, by rw [show k + (m + 1) = k + 1 + m by omega]; exact g4⟩
   rw [if_neg c0]
   obtain ⟨c2, p3, h4, a4, b4, _⟩ := dr_pick (n := 2) a.b p2 hb (by omega) (by omega)
   simp only at h4
   rw [h4, Option.bind_some]
   simp only
   have hcp : gf_cw9 f = some f := s_l2Copy (by have := bF_w hbf (by omega); omega)
   by_cases c1' : (c2 == 0) = true
   ·rw [if_pos c1']
    obtain ⟨x, p4, h5, a5, b5, x1⟩ := dr_l2Key a.b p3 hb (by omega) (by omega)
    obtain ⟨y, p5, h6, a6, b6, y1⟩ := dr_l2Val a.b p4 hb (by omega) (by omega)
    obtain ⟨ts, t1, t2, t3⟩ := dr_l2Put (s := f.tags) (a := x) (b := y) (by have := hbf.2.2.1; omega)
    obtain ⟨o, s', p', e1, e2, e3, e4, e5⟩ := step ⟨f.id, f.shape, ts⟩ p5 ⟨hbf.1, by have := hbf.2.1; simp only; omega, by have := hbf.2.2.1; simp only; omega, fun t ht => by
     rcases t3 t ht with h | h
     ·exact hbf.2.2.2 t h
     ·subst h; exact ⟨x1, y1⟩⟩ (by omega) (by omega)
    simp only [hf', Option.bind_some, hcp, h5, h6, t1, e1]
    exact ⟨s', p', e2, e3, by omega, e5⟩
   ·rw [if_neg c1']
    obtain ⟨z, p4, h5, a5, b5, z1⟩ := p_l4Bend (s := f.shape) (k := k) hbf.2.1 (by omega) a.b p3 hb (by omega) (by omega)
    simp only at h5
    obtain ⟨o, s', p', e1, e2, e3, e4, e5⟩ := step ⟨f.id, z, f.tags⟩ p4 ⟨hbf.1, z1, by have := hbf.2.2.1; simp only; omega, hbf.2.2.2⟩ (by omega) (by omega)
    simp only [hf', Option.bind_some, hcp]
    rw [h5]
    simp only [Option.bind_some, e1]
    exact ⟨s', p', e2, e3, by omega, e5⟩
theorem dr_l4Near {s : List Feat} (hs : bS 0 s) : Drw (fun r => gf_dm9 r s) 151 fun o => bS 0 o := fun b p hb h0 hp => by
 obtain ⟨c, p1, h1, a1, b1, c1, c2⟩ := dr_pick (n := 3) b p hb h0 (by omega)
 have c2 := c2 (by omega)
 simp only [gf_dm9]
 simp only at h1
 rw [h1, Option.bind_some]
 simp only
 rw [wrap_id (by omega) (by omega)]
 obtain ⟨o, p2, h2, a2, b2, d2⟩ := l4Near_loop ⟨b, p⟩ hb (1 + c).toNat rounds s (1 + c) p1 0 (by unfold rounds; omega) (by omega) hs (by omega) (by omega) (by omega)
 have hw : bS 3 o := by
  have h3 : o.length ≤ 20 + (0 + (1 + c).toNat) := d2.1
  exact ⟨by omega, fun f hf => by
   obtain ⟨q1, q2, q3, q4⟩ := d2.2 f hf
   exact ⟨q1, by omega, by omega, q4⟩⟩
 rw [h2, Option.bind_some, s_SheetOk (by have := bS_w hw (by omega); simp only; omega), Option.bind_some]
 by_cases ho : mSheet o = true
 ·simp only [ho]
  exact ⟨o, p2, rfl, by omega, by omega, mSheet_bS (fun f hf => (d2.2 f hf).1.2) ho⟩
 ·rw [Bool.not_eq_true] at ho
  simp only [ho]
  exact ⟨s, p2, rfl, by omega, by omega, hs⟩
def nm3 : List Str := [(⟨#[109, 97, 105, 110]⟩ : Str), (⟨#[97, 110, 110]⟩ : Str), (⟨#[98, 111, 98]⟩ : Str)]
theorem nm3_size {s : Str} (h : s ∈ nm3) : s.size ≤ 7 := (by decide : ∀ y ∈ nm3, y.size ≤ 7) s h
def bC0 (c : Commit) : Prop := c.up.length ≤ 3 ∧ bS 0 c.sheet ∧ c.note.size ≤ 7
def bC (c : Commit) : Prop := c.up.length ≤ 3 ∧ bS 0 c.sheet ∧ nt c.note
def bR (r : Repo) : Prop := (1 ≤ r.commits.length ∧ r.commits.length ≤ 12) ∧ (1 ≤ r.heads.length ∧ r.heads.length ≤ 5) ∧ (∀ c ∈ r.commits, bC c) ∧ ∀ h ∈ r.heads, h.name ∈ nm3
def gR (r : Repo) : Prop := bR r ∧ r.heads.length ≤ 4 ∧ (∀ h ∈ r.heads, 0 ≤ h.at_ ∧ h.at_ < (r.commits.length : Int)) ∧ ∀ c ∈ r.commits, c.up.length ≤ 2
theorem bC0_w {c : Commit} (h : bC0 c) : wCommit c ≤ 10020 := by
 obtain ⟨h1, h2, h3⟩ := h
 have := bS_w h2 (by omega)
 unfold wCommit
 simp only [wL, sum_w0] at this ⊢
 omega
theorem bC_w {c : Commit} (h : bC c) : wCommit c ≤ 10020 := bC0_w ⟨h.1, h.2.1, h.2.2.1⟩
theorem bR_w {r : Repo} (h : bR r) : wRepo r ≤ 200000 := by
 obtain ⟨h1, h2, h3, h4⟩ := h
 have e1 := sum_le2 (w := wCommit) (n := 10020) (xs := r.commits) fun c hc => bC_w (h3 c hc)
 have e2 := sum_le2 (w := wHead) (n := 7) (xs := r.heads) fun c hc => by have := nm3_size (h4 c hc); unfold wHead; omega
 unfold wRepo wL
 omega
theorem dr_l7Add {x : Repo} {k : Int} {c : Commit} (hx : gR x) (hk0 : 0 ≤ k) (hk : k < x.heads.length) (hc : bC c) (hc2 : c.up.length ≤ 2) (hl : x.commits.length < 12) : ∃ y, gf_dn9 x k c = some y ∧ gR y := by
 have hw := bR_w hx.1
 obtain ⟨⟨⟨g1, g2⟩, ⟨g3, g4⟩, g5, g6⟩, g7, g8, g9⟩ := hx
 unfold gf_dn9
 rw [s_l7Find (by unfold wRepo at hw; omega), Option.bind_some]
 obtain ⟨h, hh⟩ := getI (xs := x.heads) (i := k.toNat) (by omega)
 have hh' : idx x.heads k = some h := by rw [idx_int hk0]; exact hh
 have hn := g6 h (List.mem_of_getElem? hh)
 have set_ok : ∀ (m : Int) (z : Head), z ∈ x.heads.set k.toNat ⟨h.name, m⟩ → z ∈ x.heads ∨ z = ⟨h.name, m⟩ := fun m z hz => List.mem_or_eq_of_mem_set hz
 rcases fst_range (p := fun y : Commit => decide (y = c)) (l := x.commits) (k := 0) with hf | hf
 ·have e : mFind x.commits c = -1 := hf
  rw [e, if_pos (by decide), s_l7One (by have := bC_w hc; omega), Option.bind_some, if_pos (fits_small (by simp; omega)), hh', Option.bind_some]
  refine ⟨_, rfl, ⟨⟨by simp, by simp; omega⟩, ⟨by simp; omega, by simp; omega⟩, fun d hd => ?_, fun z hz => ?_⟩, by simp; omega, fun z hz => ?_, fun d hd => by
   rcases List.mem_append.1 hd with h | h
   ·exact g9 d h
   ·simp only [List.mem_singleton] at h; subst h; exact hc2⟩
  ·rcases List.mem_append.1 hd with h | h
   ·exact g5 d h
   ·simp only [List.mem_singleton] at h; subst h; exact hc
  ·rcases set_ok _ z hz with h | h
   ·exact g6 z h
   ·subst h; exact hn
  ·rcases set_ok _ z hz with h | h
   ·have := g8 z h; simp only [List.length_append, List.length_singleton]; omega
   ·subst h; simp only [List.length_append, List.length_singleton]; omega
 ·have e : mFind x.commits c = fstFrom (fun y : Commit => decide (y = c)) x.commits 0 := rfl
  rw [← e] at hf
  rw [if_neg (by simp; omega), hh', Option.bind_some]
  refine ⟨_, rfl, ⟨⟨g1, g2⟩, ⟨by simp; omega, by simp; omega⟩, g5, fun z hz => ?_⟩, by simp; omega, fun z hz => ?_, g9⟩
  ·rcases set_ok _ z hz with h | h
   ·exact g6 z h
   ·subst h; exact hn
  ·rcases set_ok _ z hz with h | h
   ·exact g8 z h
   ·subst h; simp only; omega
theorem mHead_range {hs : List Head} {n : Str} : mHead hs n < 0 ∨ 0 ≤ mHead hs n ∧ mHead hs n < hs.length := by
 rcases fst_range (p := fun y : Head => decide (y.name = n)) (l := hs) (k := 0) with h | h
 ·left
  have e : mHead hs n = -1 := h
  omega
 ·right
  have e : mHead hs n = fstFrom (fun y : Head => decide (y.name = n)) hs 0 := rfl
  rw [← e] at h
  simpa using h
theorem mBranch_g {r : Repo} {n f : Str} (h : gR r) (hn : n ∈ nm3) (hl : 0 < (mBranch r n f).1.heads.length) : gR (mBranch r n f).1 := by
 unfold mBranch at hl ⊢
 split
 ·rename_i h0
  rw [if_pos h0] at hl
  split
  ·exact h
  ·rename_i h1
   rw [if_neg h1] at hl
   split
   ·exact h
   ·rename_i h2
    rw [if_neg h2] at hl
    obtain ⟨⟨⟨g1, g2⟩, ⟨g3, g4⟩, g5, g6⟩, g7, g8, g9⟩ := h
    have hm := mHead_range (hs := r.heads) (n := f)
    obtain ⟨z, hz⟩ := getI (xs := r.heads) (i := (mHead r.heads f).toNat) (by omega)
    have hz' : idx r.heads (mHead r.heads f) = some z := by rw [idx_int (by omega)]; exact hz
    rw [hz']
    have hz8 := g8 z (List.mem_of_getElem? hz)
    refine ⟨⟨⟨g1, g2⟩, ⟨by simp, by simp; omega⟩, g5, fun y hy => ?_⟩, by simp; omega, fun y hy => ?_, g9⟩
    ·rcases List.mem_append.1 hy with h | h
     ·exact g6 y h
     ·simp only [List.mem_singleton] at h; subst h; exact hn
    ·rcases List.mem_append.1 hy with h | h
     ·exact g8 y h
     ·simp only [List.mem_singleton] at h; subst h; exact hz8
 ·rename_i h0
  rw [if_neg h0] at hl
  exact absurd hl (by decide)
theorem dr_l7Grow {x : Repo} (hx : gR x) : Drw (fun r => gf_dr9 r x) 160 fun o => ∀ y, o = some y → gR y := fun b p hb h0 hp => by
 have hw := bR_w hx.1
 have hx' := hx
 obtain ⟨⟨⟨g1, g2⟩, ⟨g3, g4⟩, g5, g6⟩, g7, g8, g9⟩ := hx
 obtain ⟨nm, p1, h1, a1, b1, c1⟩ := dr_l7Name b p hb h0 (by omega)
 simp only [gf_dr9]
 rw [h1, Option.bind_some]
 simp only
 rw [s_l7Head (by omega), Option.bind_some]
 have hm := mHead_range (hs := x.heads) (n := nm)
 by_cases hneg : mHead x.heads nm < 0
 ·rw [if_pos (by simpa using hneg)]
  obtain ⟨k, p2, h2, a2, b2, k1, k2⟩ := dr_pick (n := (x.heads.length : Int)) b p1 hb (by omega) (by omega)
  have k2 := k2 (by omega)
  simp only at h2
  obtain ⟨z, hz⟩ := getI (xs := x.heads) (i := k.toNat) (by omega)
  have hz' : idx x.heads k = some z := by rw [idx_int k1]; exact hz
  rw [h2, Option.bind_some]
  simp only
  rw [hz', Option.bind_some, s_RepoBranch (by omega) (by have := nm3_size c1; omega), Option.bind_some]
  by_cases hl : 0 < (mBranch x nm z.name).1.heads.length
  ·rw [if_pos (by simpa using hl)]
   exact ⟨_, p2, rfl, by omega, by omega, fun y hy => by cases hy; exact mBranch_g hx' c1 hl⟩
  ·rw [if_neg (by simpa using hl)]
   exact ⟨_, p2, rfl, by omega, by omega, fun y hy => by cases hy⟩
 ·rw [if_neg (by simpa using hneg)]
  have hm := hm.resolve_left hneg
  obtain ⟨z, hz⟩ := getI (xs := x.heads) (i := (mHead x.heads nm).toNat) (by omega)
  have hz' : idx x.heads (mHead x.heads nm) = some z := by rw [idx_int hm.1]; exact hz
  have hz8 := g8 z (List.mem_of_getElem? hz)
  obtain ⟨cm, hcm⟩ := getI (xs := x.commits) (i := z.at_.toNat) (by omega)
  have hcm' : idx x.commits z.at_ = some cm := by rw [idx_int hz8.1]; exact hcm
  have hcb := g5 cm (List.mem_of_getElem? hcm)
  obtain ⟨sh, p2, h2, a2, b2, c2⟩ := dr_l4Near hcb.2.1 b p1 hb (by omega) (by omega)
  obtain ⟨nt, p3, h3, a3, b3, c3⟩ := dr_l7Note b p2 hb (by omega) (by omega)
  obtain ⟨k, p4, h4, a4, b4, k1, k2⟩ := dr_pick (n := (x.heads.length : Int)) b p3 hb (by omega) (by omega)
  have k2 := k2 (by omega)
  simp only at h2 h3 h4
  obtain ⟨y, hy⟩ := getI (xs := x.heads) (i := k.toNat) (by omega)
  have hy' : idx x.heads k = some y := by rw [idx_int k1]; exact hy
  rw [hz', Option.bind_some, hcm', Option.bind_some, h2, Option.bind_some]
  simp only
  rw [h3, Option.bind_some, Option.bind_some]
  simp only
  rw [h4, Option.bind_some]
  simp only
  rw [hy', Option.bind_some]
  obtain ⟨w, p5, h5, a5, b5, _⟩ := dr_pick (n := 4) b p4 hb (by omega) (by omega)
  simp only at h5
  have key : ∃ up p6, ((if (y.at_ != z.at_) = true then ((gf_cm9 (⟨b, p4⟩ : Rd) 4).bind fun x49 => if (x49.1 == 0) = true then (some ([z.at_, y.at_], x49.2)) else (some ([z.at_], x49.2))) else (some ([z.at_], p4)) : Option ((List Int) × Int))) = some (up, p6) ∧ up.length ≤ 2 ∧ p4 ≤ p6 ∧ p6 ≤ p4 + 1 := by
   split
   ·rw [h5, Option.bind_some]
    simp only
    split
    ·exact ⟨_, _, rfl, by simp, a5, b5⟩
    ·exact ⟨_, _, rfl, by simp, a5, b5⟩
   ·exact ⟨_, _, rfl, by simp, by omega, by omega⟩
  obtain ⟨up, p6, k1', k2', k3', k4'⟩ := key
  rw [k1', Option.bind_some]
  by_cases hl : 12 ≤ x.commits.length
  ·rw [if_pos (by simp; omega)]
   exact ⟨_, p6, rfl, by omega, by omega, fun y hy => by cases hy⟩
  ·rw [if_neg (by simp; omega), s_l7Copy (by omega), Option.bind_some]
   obtain ⟨o, o1, o2⟩ := dr_l7Add (k := mHead x.heads nm) (c := ⟨up, sh, nt⟩) hx' hm.1 hm.2 ⟨by simp only; omega, c2, c3⟩ k2' (by omega)
   rw [o1]
   exact ⟨_, p6, rfl, by omega, by omega, fun y hy => by cases hy; exact o2⟩
theorem l7Repo_loop (a : Rd) (hb : a.b.length ≤ 2000) : ∀ (m n : Nat) (i p : Int) (cs : List Commit) (hs : List Head), m < n → i = m → gR ⟨cs, hs⟩ → 0 ≤ p → p + 160 * m ≤ 100000 → ∃ p' cs' hs', gl_dy9_1 a n i p cs hs = some (p', cs', hs') ∧ p ≤ p' ∧ p' ≤ p + 160 * m ∧ gR ⟨cs', hs'⟩
 | _, 0, _, _, _, _, h, _, _, _, _ => by omega
 | 0, n + 1, i, p, cs, hs, h, hi, hg, hp, hq => by
  unfold gl_dy9_1
  rw [if_neg (by simp; omega)]
  exact ⟨p, cs, hs, rfl, by omega, by omega, hg⟩
 | m + 1, n + 1, i, p, cs, hs, h, hi, hg, hp, hq => by
  unfold gl_dy9_1
  rw [if_pos (by simp; omega), wrap_id (n := i - 1) (by omega) (by omega)]
  obtain ⟨o, p1, h1, a1, b1, c1⟩ := dr_l7Grow hg a.b p hb hp (by omega)
  simp only at h1
  rw [h1, Option.bind_some]
  cases o with
  | none =>
   obtain ⟨p', cs', hs', e1, e2, e3, e4⟩ := l7Repo_loop a hb m n (i - 1) p1 cs hs (by omega) (by omega) hg (by omega) (by omega)
   exact ⟨p', cs', hs', e1, by omega, by omega, e4⟩
  | some y =>
   obtain ⟨p', cs', hs', e1, e2, e3, e4⟩ := l7Repo_loop a hb m n (i - 1) p1 y.commits y.heads (by omega) (by omega) (c1 y rfl) (by omega) (by omega)
   exact ⟨p', cs', hs', e1, by omega, by omega, e4⟩
theorem dr_l7Repo : Drw gf_dy9 1500 gR := fun b p hb h0 hp => by
 obtain ⟨s, p1, h1, a1, b1, s1, s2⟩ := dr_l3Sheet b p hb h0 (by omega)
 obtain ⟨k, p2, h2, a2, b2, k1, k2⟩ := dr_pick (n := 7) b p1 hb (by omega) (by omega)
 have k2 := k2 (by omega)
 have hnew : gf_by9 (⟨#[109, 97, 105, 110]⟩ : Str) = some (⟨[⟨[], [], (⟨#[98, 101, 103, 105, 110]⟩ : Str)⟩], [⟨(⟨#[109, 97, 105, 110]⟩ : Str), 0⟩]⟩, true) := by
  unfold gf_by9
  rw [s_WordOk (by decide), Option.bind_some, (by decide : mWord (⟨#[109, 97, 105, 110]⟩ : Str) = true)]
  rfl
 simp only at h2
 unfold gf_dy9
 rw [hnew, Option.bind_some, h1, Option.bind_some]
 simp only
 rw [show idx [(⟨[], [], (⟨#[98, 101, 103, 105, 110]⟩ : Str)⟩ : Commit)] 0 = some ⟨[], [], (⟨#[98, 101, 103, 105, 110]⟩ : Str)⟩ from rfl, Option.bind_some, h2, Option.bind_some]
 simp only
 rw [wrap_id (n := 2 + k) (by omega) (by omega)]
 have hg : gR ⟨List.set [(⟨[], [], (⟨#[98, 101, 103, 105, 110]⟩ : Str)⟩ : Commit)] (0 : Int).toNat ⟨[], s, (⟨#[98, 101, 103, 105, 110]⟩ : Str)⟩, [⟨(⟨#[109, 97, 105, 110]⟩ : Str), 0⟩]⟩ := by
  refine ⟨⟨⟨by simp, by simp⟩, ⟨by simp, by simp⟩, fun c hc => ?_, fun h hh => ?_⟩, by simp, fun h hh => ?_, fun c hc => ?_⟩
  ·have : c = ⟨[], s, (⟨#[98, 101, 103, 105, 110]⟩ : Str)⟩ := by simpa using hc
   subst this
   exact ⟨by simp, ⟨by simp only; omega, s2⟩, nt_of (s := ⟨#[98, 101, 103, 105, 110]⟩) (by decide)⟩
  ·simp only [List.mem_singleton] at hh; subst hh; exact (List.mem_cons_self : (⟨#[109, 97, 105, 110]⟩ : Str) ∈ nm3)
  ·simp only [List.mem_singleton] at hh; subst hh; simp
  ·have : c = ⟨[], s, (⟨#[98, 101, 103, 105, 110]⟩ : Str)⟩ := by simpa using hc
   subst this
   simp
 obtain ⟨p3, cs, hs, h3, a3, b3, c3⟩ := l7Repo_loop ⟨b, p⟩ hb (2 + k).toNat rounds (2 + k) p2 _ _ (by unfold rounds; omega) (by omega) hg (by omega) (by omega)
 rw [h3, Option.bind_some]
 simp only
 obtain ⟨w, p4, h4, a4, b4, _⟩ := dr_pick (n := 4) b p3 hb (by omega) (by omega)
 simp only at h4
 rw [h4, Option.bind_some]
 simp only
 split
 ·by_cases hl : 1 < hs.length
  ·rw [if_pos (by simp; omega), wrap_pred (by omega) (by have := c3.2.1; simp only at this; omega)]
   unfold slc
   rw [if_pos ⟨by omega, by omega, by omega⟩]
   obtain ⟨⟨g1, ⟨g3, g4⟩, g5, g6⟩, g7, g8, g9⟩ := c3
   simp only at g3 g4 g7 g8 g6
   refine ⟨_, p4, rfl, by omega, by omega, ⟨g1, ⟨by simp; omega, by simp; omega⟩, g5, fun h hh => ?_⟩, by simp; omega, fun h hh => ?_, g9⟩
   ·exact g6 h (List.mem_of_mem_take (List.mem_of_mem_drop hh))
   ·exact g8 h (List.mem_of_mem_take (List.mem_of_mem_drop hh))
  ·rw [if_neg (by simp; omega)]
   exact ⟨_, p4, rfl, by omega, by omega, c3⟩
 ·exact ⟨_, p4, rfl, by omega, by omega, c3⟩
theorem mem_setC {cs : List Commit} {i : Nat} {c y : Commit} (h : y ∈ cs.set i c) : y ∈ cs ∨ y = c := List.mem_or_eq_of_mem_set h
theorem bR_setC {r : Repo} {i : Nat} {c : Commit} (h : bR r) (hc : bC c) : bR ⟨r.commits.set i c, r.heads⟩ := by
 obtain ⟨g1, g2, g3, g4⟩ := h
 refine ⟨by simpa using g1, g2, fun y hy => ?_, g4⟩
 rcases mem_setC hy with h | h
 ·exact g3 y h
 ·subst h; exact hc
theorem dr_l7Bent : Drw gf_do9 1800 bR := fun b p hb h0 hp => by
 obtain ⟨r, p1, h1, a1, b1, hg⟩ := dr_l7Repo b p hb h0 (by omega)
 have hr := hg.1
 have hr' := hr
 obtain ⟨⟨g1, g2⟩, ⟨g3, g4⟩, g5, g6⟩ := hr
 have g7 := hg.2.1
 obtain ⟨k, p2, h2, a2, b2, k1, k2⟩ := dr_pick (n := (r.commits.length : Int)) b p1 hb (by omega) (by omega)
 have k2 := k2 (by omega)
 obtain ⟨c, p3, h3, a3, b3, _⟩ := dr_pick (n := 48) b p2 hb (by omega) (by omega)
 simp only at h2 h3
 unfold gf_do9
 rw [h1, Option.bind_some]
 simp only
 rw [h2, Option.bind_some]
 simp only
 rw [h3, Option.bind_some, Option.bind_some]
 simp only
 obtain ⟨y, hy⟩ := getI (xs := r.commits) (i := k.toNat) (by omega)
 have hy' : idx r.commits k = some y := by rw [idx_int k1]; exact hy
 have hyb := g5 y (List.mem_of_getElem? hy)
 obtain ⟨z, hz⟩ := getI (xs := r.heads) (i := 0) (by omega)
 have hz' : idx r.heads 0 = some z := by rw [show (0 : Int) = ((0 : Nat) : Int) from rfl, idx_nat]; exact hz
 have hzb := g6 z (List.mem_of_getElem? hz)
 by_cases c0 : (c == 0) = true
 ·rw [if_pos c0]
  obtain ⟨x, p4, h4, a4, b4, _⟩ := dr_num (l := [-1, (r.commits.length : Int)]) (by simp) b p3 hb (by omega) (by omega)
  simp only at h4
  rw [h4, Option.bind_some, hz']
  refine ⟨_, p4, rfl, by omega, by omega, ⟨g1, g2⟩, ⟨by simp; omega, by simp; omega⟩, g5, fun h hh => ?_⟩
  rcases List.mem_or_eq_of_mem_set hh with h' | h'
  ·exact g6 h h'
  ·subst h'; exact hzb
 rw [if_neg c0]
 by_cases c1 : (c == 1) = true
 ·rw [if_pos c1, hy', Option.bind_some]
  have hup : y.up.length ≤ 2 := hg.2.2.2 y (List.mem_of_getElem? hy)
  rw [if_pos (fits_small (by simp; omega))]
  exact ⟨_, p3, rfl, by omega, by omega, bR_setC hr' ⟨by simp; omega, hyb.2.1, hyb.2.2⟩⟩
 rw [if_neg c1]
 by_cases c2 : (c == 2) = true
 ·rw [if_pos c2]
  obtain ⟨x, p4, h4, a4, b4, hx⟩ := dr_l3Bent b p3 hb (by omega) (by omega)
  rw [h4, Option.bind_some, hy']
  exact ⟨_, p4, rfl, by omega, by omega, bR_setC hr' ⟨hyb.1, hx, hyb.2.2⟩⟩
 rw [if_neg c2]
 by_cases c3 : (c == 3) = true
 ·rw [if_pos c3, hy']
  exact ⟨_, p3, rfl, by omega, by omega, bR_setC hr' ⟨hyb.1, hyb.2.1, nt_of (s := ⟨#[]⟩) (by decide)⟩⟩
 rw [if_neg c3]
 by_cases c4 : (c == 4) = true
 ·rw [if_pos c4, hz', Option.bind_some, if_pos (fits_small (by simp; omega))]
  refine ⟨_, p3, rfl, by omega, by omega, ⟨g1, g2⟩, ⟨by simp, by simp; omega⟩, g5, fun h hh => ?_⟩
  rcases List.mem_append.1 hh with h' | h'
  ·exact g6 h h'
  ·simp only [List.mem_singleton] at h'; subst h'; exact hzb
 rw [if_neg c4]
 by_cases c5 : (c == 5) = true
 ·rw [if_pos c5, hy']
  exact ⟨_, p3, rfl, by omega, by omega, bR_setC hr' ⟨by simp, hyb.2.1, hyb.2.2⟩⟩
 rw [if_neg c5]
 exact ⟨r, p3, rfl, by omega, by omega, hr'⟩
theorem dr_open (code : List UInt8) : ∃ b, gf_cj9 code = some ⟨b, 0⟩ ∧ b.length ≤ 2000 := by
 unfold gf_cj9
 split
 ·rename_i h
  have h' : (code.length : Int) > 2000 := by simpa using h
  unfold slc
  rw [if_pos ⟨by omega, by omega, by omega⟩]
  exact ⟨_, rfl, by simp; omega⟩
 ·rename_i h
  have h' : ¬ (code.length : Int) > 2000 := by simpa using h
  exact ⟨code, rfl, by omega⟩
theorem allFrom_app {α : Type} {p : α → Nat → Bool} : ∀ {a b : List α} {k : Nat}, allFrom p (a ++ b) k = (allFrom p a k && allFrom p b (k + a.length))
 | [], b, k => by simp [allFrom]
 | x :: a, b, k => by
  simp only [List.cons_append, allFrom, allFrom_app (a := a), List.length_cons, Bool.and_assoc]
  rw [show k + 1 + a.length = k + (a.length + 1) by omega]
theorem allFrom_imp {α : Type} {p q : α → Nat → Bool} {l : List α} {k : Nat} (h : ∀ j x, l[j]? = some x → p x (k + j) = true → q x (k + j) = true) (hp : allFrom p l k = true) : allFrom q l k = true :=
 allFrom_mk fun j x hx => h j x hx (allFrom_get hp j x hx)
theorem fst_app {α : Type} {p : α → Bool} : ∀ {a b : List α} {k : Nat}, fstFrom p (a ++ b) k = if fstFrom p a k < 0 then fstFrom p b (k + a.length) else fstFrom p a k
 | [], b, k => by simp [fstFrom]
 | x :: a, b, k => by
  simp only [List.cons_append, fstFrom]
  split
  ·rw [if_neg (by omega)]
  ·rw [fst_app (a := a), List.length_cons, show k + 1 + a.length = k + (a.length + 1) by omega]
theorem repo_parts {r : Repo} : mRepo r = true ↔ (1 ≤ r.commits.length ∧ r.commits.length ≤ 14) ∧ (1 ≤ r.heads.length ∧ r.heads.length ≤ 4) ∧ mCommits r.commits = true ∧ mHeads r.commits.length r.heads = true := by
 unfold mRepo
 simp only [Bool.and_eq_true, decide_eq_true_eq]
 constructor
 ·rintro ⟨a, b, c, d, e, f⟩; exact ⟨⟨a, b⟩, ⟨c, d⟩, e, f⟩
 ·rintro ⟨⟨a, b⟩, ⟨c, d⟩, e, f⟩; exact ⟨a, b, c, d, e, f⟩
theorem hd_parts {r : Repo} (h : mRepo r = true) {i : Nat} {z : Head} (hz : r.heads[i]? = some z) : mWord z.name = true ∧ mHead r.heads z.name = (i : Int) ∧ 0 ≤ z.at_ ∧ z.at_ < (r.commits.length : Int) := by
 have := allFrom_get (repo_parts.1 h).2.2.2 i z hz
 simp only [Nat.zero_add, Bool.and_eq_true, decide_eq_true_eq] at this
 exact ⟨this.1, this.2.1, this.2.2.1, this.2.2.2⟩
theorem i_RepoAt' {r : Repo} {n : Str} (hw : wRepo r ≤ 1048576) : gf_ac9 r n = some (mRepoAt r n) := by
 have hh : r.heads.length ≤ 1048576 := by unfold wRepo wL at hw; omega
 unfold gf_ac9
 rw [i_Repo_head hh, i_RepoOk hw]
 simp only [Option.bind_some]
 rcases repoAt_cases r n with ⟨h1, h2⟩ | ⟨k, a, h, hr, h1, h2, h3, h4, h5, h6⟩
 ·rw [h1]
  by_cases hr : mRepo r = true
  ·rw [hr, h2 hr]
   rfl
  ·simp only [Bool.not_eq_true] at hr
   rw [hr]
   rfl
 ·rw [h6, hr, h1]
  simp only [Bool.not_true]
  rw [if_neg (by decide), if_neg (by simp), idx_nat, h2]
  simp [h4]
theorem trueAt_lt {m : List Bool} {k : Nat} (h : trueAt m k = true) : k < m.length := by
 unfold trueAt at h
 rcases Nat.lt_or_ge k m.length with h1 | h1
 ·exact h1
 ·rw [List.getElem?_eq_none h1] at h
  cases h
theorem cnt_mono {m : List Bool} {a : Nat} : ∀ {b : Nat}, a ≤ b → cnt m a ≤ cnt m b
 | 0, h => by
  have : a = 0 := by omega
  subst this; exact Nat.le_refl _
 | b + 1, h => by
  rcases Nat.eq_or_lt_of_le h with rfl | h
  ·exact Nat.le_refl _
  ·have := cnt_mono (m := m) (a := a) (b := b) (by omega)
   simp only [cnt]
   omega
theorem cnt_lt {m : List Bool} {a b : Nat} (h : a < b) (ha : trueAt m a = true) : cnt m a < cnt m b := by
 have h1 := cnt_mono (m := m) (a := a + 1) (b := b) h
 simp only [cnt, ha, if_true] at h1
 omega
theorem cnt_inj {m : List Bool} {a b : Nat} (ha : trueAt m a = true) (hb : trueAt m b = true) (h : cnt m a = cnt m b) : a = b := by
 rcases Nat.lt_trichotomy a b with h1 | h1 | h1
 ·have := cnt_lt h1 ha; omega
 ·exact h1
 ·have := cnt_lt h1 hb; omega
theorem sweepC_len {m : List Bool} : ∀ {l : List Commit} {k : Nat}, (sweepC m l k).length + cnt m k = cnt m (k + l.length)
 | [], k => by simp [sweepC]
 | x :: l, k => by
  have ih := sweepC_len (m := m) (l := l) (k := k + 1)
  simp only [cnt] at ih
  rw [List.length_cons, show k + (l.length + 1) = k + 1 + l.length by omega]
  simp only [sweepC]
  split
  ·rename_i h
   rw [if_pos h] at ih
   simp only [List.length_cons]
   omega
  ·rename_i h
   rw [if_neg h] at ih
   omega
theorem sweepC_get {m : List Bool} : ∀ {l : List Commit} {k j : Nat} {x : Commit}, l[j]? = some x → trueAt m (k + j) = true → (sweepC m l k)[cnt m (k + j) - cnt m k]? = some (newUp m x)
 | [], k, j, x, h, _ => by simp at h
 | y :: l, k, 0, x, h, ht => by
  simp only [List.getElem?_cons_zero, Option.some.injEq] at h
  subst h
  simp only [Nat.add_zero] at ht
  simp [sweepC, ht]
 | y :: l, k, j + 1, x, h, ht => by
  rw [show k + (j + 1) = k + 1 + j by omega] at ht ⊢
  have ih := sweepC_get (m := m) (l := l) (k := k + 1) (j := j) (by simpa using h) ht
  have hm := cnt_mono (m := m) (a := k + 1) (b := k + 1 + j) (by omega)
  simp only [cnt] at ih hm
  simp only [sweepC]
  split
  ·rename_i hk
   rw [if_pos hk] at ih hm
   rw [show cnt m (k + 1 + j) - cnt m k = cnt m (k + 1 + j) - (cnt m k + 1) + 1 by omega, List.getElem?_cons_succ]
   exact ih
  ·rename_i hk
   rw [if_neg hk] at ih
   exact ih
theorem cnt_hit {m : List Bool} : ∀ {n j : Nat}, j < cnt m n → ∃ k, k < n ∧ trueAt m k = true ∧ cnt m k = j
 | 0, j, h => by simp [cnt] at h
 | n + 1, j, h => by
  by_cases hn : j < cnt m n
  ·obtain ⟨k, h1, h2, h3⟩ := cnt_hit hn
   exact ⟨k, by omega, h2, h3⟩
  ·simp only [cnt] at h
   split at h
   ·rename_i ht
    exact ⟨n, by omega, ht, by omega⟩
   ·omega
structure Kept (cs : List Commit) (m : List Bool) : Prop where
 hist : Hist cs
 len : m.length = cs.length
 up : ∀ k x u, cs[k]? = some x → trueAt m k = true → u ∈ x.up → trueAt m u.toNat = true
section
variable {cs : List Commit} {m : List Bool}
theorem Kept.get (h : Kept cs m) {k : Nat} (hk : trueAt m k = true) : ∃ x, cs[k]? = some x ∧ (sweepC m cs 0)[cnt m k]? = some (newUp m x) := by
 obtain ⟨x, hx⟩ := getI (xs := cs) (i := k) (by rw [← h.len]; exact trueAt_lt hk)
 have := sweepC_get (m := m) (l := cs) (k := 0) (j := k) hx (by simpa using hk)
 simp only [Nat.zero_add, cnt, Nat.sub_zero] at this
 exact ⟨x, hx, this⟩
theorem Kept.tot (h : Kept cs m) : (sweepC m cs 0).length = cnt m cs.length := by
 have := sweepC_len (m := m) (l := cs) (k := 0)
 simp only [Nat.zero_add, cnt] at this
 exact this
theorem Kept.from (h : Kept cs m) {j : Nat} {y : Commit} (hy : (sweepC m cs 0)[j]? = some y) : ∃ k x, trueAt m k = true ∧ cnt m k = j ∧ cs[k]? = some x ∧ y = newUp m x := by
 have := get_lt hy
 rw [h.tot] at this
 obtain ⟨k, h1, h2, h3⟩ := cnt_hit this
 obtain ⟨x, h4, h5⟩ := h.get h2
 rw [h3, hy] at h5
 exact ⟨k, x, h2, h3, h4, Option.some.inj h5⟩
theorem Kept.anc (h : Kept cs m) {a b : Nat} (ha : trueAt m a = true) (hab : Anc cs a b) : trueAt m b = true ∧ Anc (sweepC m cs 0) (cnt m a) (cnt m b) := by
 induction hab with
 | refl => exact ⟨ha, .refl _⟩
 | up _ hx hu ih =>
  rename_i c x u _
  obtain ⟨x', h1, h2⟩ := h.get ih.1
  rw [hx] at h1
  cases h1
  refine ⟨h.up _ _ _ hx ih.1 hu, ?_⟩
  exact Anc.up (u := (cnt m u.toNat : Int)) ih.2 h2 (List.mem_map.2 ⟨u, hu, rfl⟩)
theorem Kept.anc' (h : Kept cs m) {a y : Nat} (ha : trueAt m a = true) (hay : Anc (sweepC m cs 0) (cnt m a) y) : ∃ b, trueAt m b = true ∧ y = cnt m b ∧ Anc cs a b := by
 generalize e : cnt m a = a' at hay
 induction hay with
 | refl => exact ⟨a, ha, e.symm, .refl a⟩
 | up _ hx hu ih =>
  rename_i c' x' u' _
  obtain ⟨c, h1, rfl, h3⟩ := ih
  obtain ⟨x, h4, h5⟩ := h.get h1
  rw [hx] at h5
  cases h5
  obtain ⟨u, hu1, rfl⟩ := List.mem_map.1 hu
  exact ⟨u.toNat, h.up _ _ _ h4 h1 hu1, by simp, h3.up h4 hu1⟩
theorem Kept.iff (h : Kept cs m) {a b : Nat} (ha : trueAt m a = true) (hb : trueAt m b = true) : Anc (sweepC m cs 0) (cnt m a) (cnt m b) ↔ Anc cs a b := by
 constructor
 ·intro h1
  obtain ⟨c, h2, h3, h4⟩ := h.anc' ha h1
  rw [cnt_inj hb h2 h3]
  exact h4
 ·exact fun h1 => (h.anc ha h1).2
theorem down_sweep {p p' : Nat → Bool} (hp : ∀ k, p k = true → trueAt m k = true) (hp' : ∀ k, trueAt m k = true → p' (cnt m k) = p k) : ∀ n, downF p' (cnt m n) = (downF p n).map fun u => (cnt m u.toNat : Int)
 | 0 => rfl
 | n + 1 => by
  simp only [cnt, downF]
  by_cases hn : trueAt m n = true
  ·rw [if_pos hn]
   simp only [downF, hp' n hn]
   rw [down_sweep hp hp' n]
   split
   ·simp
   ·rfl
  ·rw [if_neg hn, if_neg (fun h => hn (hp n h)), Nat.add_zero]
   exact down_sweep hp hp' n
theorem trueAt_mark {F : List Nat} {k : Nat} : trueAt (mark cs F) k = true ↔ k < cs.length ∧ ∃ f ∈ F, Anc cs f k := by
 constructor
 ·intro h
  have hl := trueAt_lt h
  rw [mark_len] at hl
  obtain ⟨b, h1, h2⟩ := mark_get (F := F) hl
  unfold trueAt at h
  rw [h1] at h
  refine ⟨hl, h2.1 (by simpa using h)⟩
 ·rintro ⟨hl, h⟩
  obtain ⟨b, h1, h2⟩ := mark_get (F := F) hl
  unfold trueAt
  rw [h1, h2.2 h]
  rfl
theorem Kept.past (h : Kept cs m) {a : Nat} (ha : trueAt m a = true) : mPast (sweepC m cs 0) (cnt m a) = (mPast cs a).map fun u => (cnt m u.toNat : Int) := by
 have hl : a < cs.length := by rw [← h.len]; exact trueAt_lt ha
 unfold mPast
 rw [h.tot]
 refine down_sweep (fun k hk => ?_) (fun k hk => ?_) _
 ·obtain ⟨h1, f, hf, h2⟩ := trueAt_mark.1 hk
  simp only [List.mem_singleton] at hf
  subst hf
  exact (h.anc ha h2).1
 ·rw [Bool.eq_iff_iff, trueAt_mark, trueAt_mark]
  simp only [List.mem_singleton, exists_eq_left]
  rw [h.iff ha hk, h.tot]
  have h1 : k < cs.length := by rw [← h.len]; exact trueAt_lt hk
  have h2 := cnt_lt (m := m) h1 hk
  constructor
  ·exact fun h3 => ⟨h1, h3.2⟩
  ·exact fun h3 => ⟨h2, h3.2⟩
end
structure Added (r : Repo) (n t : Str) (s : List Feat) (i : Nat) (z : Head) (x : Commit) (q : Repo) (k : Nat) : Prop where
 repo : mRepo r = true
 sheet : mSheet s = true
 word : mWord t = true
 hd : mHead r.heads n = (i : Int)
 at_ : r.heads[i]? = some z
 name : z.name = n
 was : r.commits[z.at_.toNat]? = some x
 ge : 0 ≤ z.at_
 ne : x.sheet ≠ s
 eq : mAdd r n s t = (q, 0)
 heads : q.heads = r.heads.set i ⟨z.name, (k : Int)⟩
 comm : (q.commits = r.commits ∧ k < r.commits.length) ∨ (q.commits = r.commits ++ [⟨[z.at_], s, t⟩] ∧ k = r.commits.length ∧ r.commits.length < 14)
 get : q.commits[k]? = some ⟨[z.at_], s, t⟩
 repo' : mRepo q = true
section
variable {r q : Repo} {n t : Str} {s : List Feat} {i k : Nat} {z : Head} {x : Commit}
theorem Added.w (h : Added r n t s i z x q k) (hw : wRepo r ≤ 1000000) (hs : wL wFeat s ≤ 20000) (ht : t.size ≤ 7) : wRepo q ≤ wRepo r + 20010 := by
 have h1 := mAdd_w (r := r) (n := n) (t := t) (s := s)
 rw [h.eq] at h1
 simp only at h1
 omega
theorem Added.pre (h : Added r n t s i z x q k) : q.commits.take r.commits.length = r.commits := by
 rcases h.comm with ⟨h1, _⟩ | ⟨h1, _⟩ <;> rw [h1] <;> simp
end
theorem repo_eta (r : Repo) : (⟨r.commits, r.heads⟩ : Repo) = r := rfl
section
variable {r q : Repo} {n t : Str} {s : List Feat} {i k : Nat} {z : Head} {x : Commit}
end
theorem repo_commits {r : Repo} (h : mRepo r = true) : mCommits r.commits = true := by
 unfold mRepo at h
 simp only [Bool.and_eq_true] at h
 exact h.2.2.2.2.1
theorem sumW_sub {α : Type} {w : α → Nat} {a b : List α} (h : a.Sublist b) : sumW w a ≤ sumW w b := by
 induction h with
 | slnil => exact Nat.le_refl _
 | cons x h ih => simp only [sumW]; omega
 | cons_cons x h ih => simp only [sumW]; omega
theorem wL_sub {α : Type} {w : α → Nat} {a b : List α} (h : a.Sublist b) : wL w a ≤ wL w b := by
 have h1 := sumW_sub (w := w) h
 have h2 := h.length_le
 unfold wL
 omega
theorem l10Two_loop (a : Rd) (hb : a.b.length ≤ 2000) : ∀ (m n : Nat) (i p : Int) (cs : List Commit) (hs : List Head), m < n → i = m → gR ⟨cs, hs⟩ → 0 ≤ p → p + 160 * m ≤ 100000 → ∃ p' cs' hs', gl_ci9_1 a n i p cs hs = some (p', cs', hs') ∧ p ≤ p' ∧ p' ≤ p + 160 * m ∧ gR ⟨cs', hs'⟩
 | _, 0, _, _, _, _, h, _, _, _, _ => by omega
 | 0, n + 1, i, p, cs, hs, h, hi, hg, hp, hq => by
  unfold gl_ci9_1
  rw [if_neg (by simp; omega)]
  exact ⟨p, cs, hs, rfl, by omega, by omega, hg⟩
 | m + 1, n + 1, i, p, cs, hs, h, hi, hg, hp, hq => by
  unfold gl_ci9_1
  rw [if_pos (by simp; omega), wrap_id (n := i - 1) (by omega) (by omega)]
  obtain ⟨o, p1, h1, a1, b1, c1⟩ := dr_l7Grow hg a.b p hb hp (by omega)
  simp only at h1
  rw [h1, Option.bind_some]
  cases o with
  | none =>
   obtain ⟨p', cs', hs', e1, e2, e3, e4⟩ := l10Two_loop a hb m n (i - 1) p1 cs hs (by omega) (by omega) hg (by omega) (by omega)
   exact ⟨p', cs', hs', e1, by omega, by omega, e4⟩
  | some y =>
   obtain ⟨p', cs', hs', e1, e2, e3, e4⟩ := l10Two_loop a hb m n (i - 1) p1 y.commits y.heads (by omega) (by omega) (c1 y rfl) (by omega) (by omega)
   exact ⟨p', cs', hs', e1, by omega, by omega, e4⟩
theorem dr_l10Two {b : List UInt8} {p : Int} (hb : b.length ≤ 2000) (h0 : 0 ≤ p) (hp : p + 5000 ≤ 100000) : ∃ a c p', gf_ci9 ⟨b, p⟩ = some (a, c, p') ∧ p ≤ p' ∧ p' ≤ p + 5000 ∧ bR a ∧ bR c := by
 obtain ⟨x, p1, h1, a1, b1, gx⟩ := dr_l7Repo b p hb h0 (by omega)
 have hwx := bR_w gx.1
 obtain ⟨k, p2, h2, a2, b2, k1, k2⟩ := dr_pick (n := 4) b p1 hb (by omega) (by omega)
 have k2 := k2 (by omega)
 obtain ⟨p3, cs, hs, h3, a3, b3, gy⟩ := l10Two_loop ⟨b, p⟩ hb k.toNat rounds k p2 x.commits x.heads (by unfold rounds; omega) (by omega) gx (by omega) (by omega)
 obtain ⟨q, p4, h4, a4, b4, _⟩ := dr_pick (n := 10) b p3 hb (by omega) (by omega)
 simp only at h2 h4
 unfold gf_ci9
 rw [h1, Option.bind_some]
 simp only
 rw [s_l7Copy (by omega), Option.bind_some, h2, Option.bind_some]
 simp only
 rw [h3, Option.bind_some]
 simp only
 rw [h4, Option.bind_some]
 simp only
 by_cases q0 : (q == 0) = true
 ·obtain ⟨r, p5, h5, a5, b5, hr⟩ := dr_l7Bent b p4 hb (by omega) (by omega)
  rw [if_pos q0, h5, Option.bind_some, Option.bind_some]
  exact ⟨r, _, p5, rfl, by omega, by omega, hr, gy.1⟩
 rw [if_neg q0]
 by_cases q1 : (q == 1) = true
 ·obtain ⟨r, p5, h5, a5, b5, hr⟩ := dr_l7Bent b p4 hb (by omega) (by omega)
  rw [if_pos q1, h5, Option.bind_some, Option.bind_some]
  exact ⟨_, r, p5, rfl, by omega, by omega, gx.1, hr⟩
 rw [if_neg q1]
 have key : ∃ t : Bool, (if (q == 2) = true then (some true) else (if (q == 3) = true then (some true) else (some (q == 4))) : Option Bool) = some t := by
  split
  ·exact ⟨_, rfl⟩
  ·split
   ·exact ⟨_, rfl⟩
   ·exact ⟨_, rfl⟩
 obtain ⟨t, ht⟩ := key
 rw [ht, Option.bind_some]
 cases t
 ·rw [if_neg (by decide), Option.bind_some]
  exact ⟨_, _, p4, rfl, by omega, by omega, gx.1, gy.1⟩
 ·rw [if_pos rfl]
  obtain ⟨o, p5, h5, a5, b5, c5⟩ := dr_l7Grow gx b p4 hb (by omega) (by omega)
  simp only at h5
  rw [h5, Option.bind_some]
  cases o with
  | none =>
   obtain ⟨o2, p6, h6, a6, b6, c6⟩ := dr_l7Grow gx b p5 hb (by omega) (by omega)
   simp only at h6
   simp only
   rw [h6, Option.bind_some]
   cases o2 with
   | none => exact ⟨_, _, p6, rfl, by omega, by omega, gx.1, gy.1⟩
   | some y => exact ⟨_, _, p6, rfl, by omega, by omega, (c6 y rfl).1, gy.1⟩
  | some z =>
   obtain ⟨o2, p6, h6, a6, b6, c6⟩ := dr_l7Grow (c5 z rfl) b p5 hb (by omega) (by omega)
   simp only at h6
   simp only
   rw [h6, Option.bind_some]
   cases o2 with
   | none => exact ⟨_, _, p6, rfl, by omega, by omega, (c5 z rfl).1, gy.1⟩
   | some y => exact ⟨_, _, p6, rfl, by omega, by omega, (c6 y rfl).1, gy.1⟩
theorem all_zip_swap {α : Type} {p q : α × α → Bool} : ∀ {a b : List α}, (∀ x ∈ a.zip b, p x = q (x.2, x.1)) → (a.zip b).all p = (b.zip a).all q
 | [], b, h => by simp
 | x :: a, [], h => by simp
 | x :: a, y :: b, h => by
  simp only [List.zip_cons_cons, List.all_cons]
  rw [h (x, y) (by simp), all_zip_swap fun z hz => h z (by simp [hz])]
theorem mSame_comm {a b : List Commit} (ha : Hist a) (hb : Hist b) : ∀ (n i k : Nat), i < n → i < a.length → k < b.length → mSame a b i k = mSame b a k i
 | 0, i, k, h, _, _ => by omega
 | n + 1, i, k, h, hi, hk => by
  obtain ⟨x, hx⟩ := getI hi
  obtain ⟨y, hy⟩ := getI hk
  rw [mSame_eq ha hx hy, mSame_eq hb hy hx]
  have e : (x.up.zip y.up).all (fun p => mSame a b p.1.toNat p.2.toNat) = (y.up.zip x.up).all fun p => mSame b a p.1.toNat p.2.toNat := all_zip_swap fun p hp => by
   have h1 := ha.lt i x hx p.1 (List.of_mem_zip hp).1
   have h2 := hb.lt k y hy p.2 (List.of_mem_zip hp).2
   exact mSame_comm ha hb n _ _ (by omega) (by omega) (by omega)
  rw [e]
  have e1 : decide (x.note = y.note) = decide (y.note = x.note) := decide_eq_decide.2 ⟨Eq.symm, Eq.symm⟩
  have e2 : decide (x.sheet = y.sheet) = decide (y.sheet = x.sheet) := decide_eq_decide.2 ⟨Eq.symm, Eq.symm⟩
  have e3 : decide (x.up.length = y.up.length) = decide (y.up.length = x.up.length) := decide_eq_decide.2 ⟨Eq.symm, Eq.symm⟩
  rw [e1, e2, e3]
theorem sameF_pre {A X B : List Commit} (hA : Hist A) : ∀ (n i k : Nat), i < A.length → sameF (A ++ X) B n i k = sameF A B n i k
 | 0, _, _, _ => rfl
 | n + 1, i, k, hi => by
  simp only [sameF]
  rw [List.getElem?_append_left hi]
  cases hx : A[i]? with
  | none => rfl
  | some x =>
   cases hy : B[k]? with
   | none => rfl
   | some y =>
    simp only
    congr 3
    refine all_congr' fun p hp => ?_
    have := hA.lt i x hx p.1 (List.of_mem_zip hp).1
    exact sameF_pre hA n _ _ (by omega)
theorem mSame_pre {A X B : List Commit} (hA : Hist A) {i k : Nat} (hi : i < A.length) : mSame (A ++ X) B i k = mSame A B i k := sameF_pre hA _ _ _ hi
theorem mSame_get {X B : List Commit} {p u : Nat} (h : mSame X B p u = true) : ∃ x y, X[p]? = some x ∧ B[u]? = some y := by
 unfold mSame at h
 rw [sameF] at h
 split at h
 ·rename_i x y hx hy
  exact ⟨x, y, hx, hy⟩
 ·cases h
theorem mSame_parts {X B : List Commit} (hX : Hist X) {p u : Nat} {x y : Commit} (hx : X[p]? = some x) (hy : B[u]? = some y) (h : mSame X B p u = true) : x.note = y.note ∧ x.sheet = y.sheet ∧ x.up.length = y.up.length ∧ ∀ (j : Nat) (a b : Int), x.up[j]? = some a → y.up[j]? = some b → mSame X B a.toNat b.toNat = true := by
 rw [mSame_eq hX hx hy] at h
 simp only [Bool.and_eq_true, decide_eq_true_eq] at h
 refine ⟨h.1, h.2.1, h.2.2.1, fun j a b ha hb => ?_⟩
 have hm : (a, b) ∈ x.up.zip y.up := by
  refine List.mem_of_getElem? (i := j) ?_
  rw [List.getElem?_zip_eq_some]
  exact ⟨ha, hb⟩
 exact List.all_eq_true.1 h.2.2.2 (a, b) hm
theorem mSame_mk {X B : List Commit} (hX : Hist X) {p u : Nat} {x y : Commit} (hx : X[p]? = some x) (hy : B[u]? = some y) (h1 : x.note = y.note) (h2 : x.sheet = y.sheet) (h3 : x.up.length = y.up.length) (h4 : ∀ (j : Nat) (a b : Int), x.up[j]? = some a → y.up[j]? = some b → mSame X B a.toNat b.toNat = true) : mSame X B p u = true := by
 rw [mSame_eq hX hx hy]
 simp only [Bool.and_eq_true, decide_eq_true_eq]
 refine ⟨h1, h2, h3, List.all_eq_true.2 fun q hq => ?_⟩
 obtain ⟨j, hj⟩ := List.mem_iff_getElem?.1 hq
 rw [List.getElem?_zip_eq_some] at hj
 exact h4 j _ _ hj.1 hj.2
theorem same_inj {X B : List Commit} (hX : Hist X) (hB : mCommits B = true) : ∀ (n p u v : Nat), p < n → mSame X B p u = true → mSame X B p v = true → u = v
 | 0, _, _, _, h, _, _ => by omega
 | n + 1, p, u, v, h, hu, hv => by
  obtain ⟨x, y, hx, hy⟩ := mSame_get hu
  obtain ⟨x', z, hx', hz⟩ := mSame_get hv
  rw [hx] at hx'
  cases hx'
  obtain ⟨a1, a2, a3, a4⟩ := mSame_parts hX hx hy hu
  obtain ⟨b1, b2, b3, b4⟩ := mSame_parts hX hx hz hv
  have e : y = z := by
   have e1 : y.up = z.up := by
    refine List.ext_getElem? fun j => ?_
    rcases Nat.lt_or_ge j x.up.length with hj | hj
    ·obtain ⟨w, hw⟩ := getI hj
     obtain ⟨a, ha⟩ := getI (xs := y.up) (i := j) (by omega)
     obtain ⟨b, hb⟩ := getI (xs := z.up) (i := j) (by omega)
     have k1 := hX.lt p x hx w (List.mem_of_getElem? hw)
     have k2 := (hist_of hB).lt u y hy a (List.mem_of_getElem? ha)
     have k3 := (hist_of hB).lt v z hz b (List.mem_of_getElem? hb)
     have := same_inj hX hB n w.toNat a.toNat b.toNat (by omega) (a4 j w a hw ha) (b4 j w b hw hb)
     rw [ha, hb]
     congr 1
     omega
    ·rw [List.getElem?_eq_none (by omega), List.getElem?_eq_none (by omega)]
   cases y
   cases z
   simp_all
  subst e
  have k1 := (commits_up hB hy).2.2.2
  have k2 := (commits_up hB hz).2.2.2
  omega
theorem find_get {A B : List Commit} {k : Nat} : mSyncFind A B k = -1 ∧ (∀ i, i < A.length → mSame A B i k = false) ∨ ∃ p : Nat, mSyncFind A B k = (p : Int) ∧ p < A.length ∧ mSame A B p k = true ∧ ∀ i, i < p → mSame A B i k = false := by
 have key : ∀ (n s : Nat) (p : Nat → Bool), fstN p n s = -1 ∧ (∀ i, i < n → p (s + i) = false) ∨ ∃ j, fstN p n s = ((s + j : Nat) : Int) ∧ j < n ∧ p (s + j) = true ∧ ∀ i, i < j → p (s + i) = false := by
  intro n
  induction n with
  | zero => exact fun s p => .inl ⟨rfl, fun i hi => by omega⟩
  | succ n ih =>
   intro s p
   simp only [fstN]
   by_cases h : p s = true
   ·rw [if_pos h]
    exact .inr ⟨0, rfl, by omega, h, fun i hi => by omega⟩
   ·rw [if_neg h]
    have h' : p s = false := by simpa using h
    rcases ih (s + 1) p with ⟨h1, h2⟩ | ⟨j, h1, h2, h3, h4⟩
    ·refine .inl ⟨h1, fun i hi => ?_⟩
     cases i with
     | zero => exact h'
     | succ i => rw [show s + (i + 1) = s + 1 + i by omega]; exact h2 i (by omega)
    ·refine .inr ⟨j + 1, by rw [h1]; congr 1; omega, by omega, by rw [show s + (j + 1) = s + 1 + j by omega]; exact h3, fun i hi => ?_⟩
     cases i with
     | zero => exact h'
     | succ i => rw [show s + (i + 1) = s + 1 + i by omega]; exact h4 i (by omega)
 rcases key A.length 0 (fun i => mSame A B i k) with ⟨h1, h2⟩ | ⟨j, h1, h2, h3, h4⟩
 ·exact .inl ⟨h1, fun i hi => by have := h2 i hi; simpa using this⟩
 ·simp only [Nat.zero_add] at h1 h3 h4
  exact .inr ⟨j, h1, h2, h3, h4⟩
theorem mCommits_app {cs : List Commit} {c : Commit} (h : mCommits cs = true) (h1 : mUp c.up cs.length = true) (h2 : mSheet c.sheet = true) (h3 : mWord c.note = true) (hno : mFind cs c < 0) : mCommits (cs ++ [c]) = true := by
 have e : mFind cs c = fstFrom (fun y : Commit => decide (y = c)) cs 0 := rfl
 have hf : mFind (cs ++ [c]) c = (cs.length : Int) := by
  unfold mFind
  rw [fst_app, ← e, if_pos hno]
  simp [fstFrom]
 unfold mCommits at h ⊢
 rw [allFrom_app, Bool.and_eq_true]
 constructor
 ·refine allFrom_imp (fun j x hx hp => ?_) h
  simp only [Nat.zero_add, Bool.and_eq_true, decide_eq_true_eq] at hp ⊢
  refine ⟨hp.1, hp.2.1, hp.2.2.1, ?_⟩
  have e2 : mFind cs x = fstFrom (fun y : Commit => decide (y = x)) cs 0 := rfl
  unfold mFind
  rw [fst_app, ← e2, if_neg (by omega)]
  exact hp.2.2.2
 ·simp only [allFrom, Nat.zero_add, Bool.and_true, Bool.and_eq_true, decide_eq_true_eq]
  exact ⟨h1, h2, h3, hf⟩
theorem mUp_mk {up : List Int} {k : Nat} (h1 : ∀ u ∈ up, 0 ≤ u ∧ u < (k : Int)) (h2 : up.length ≤ 2) (h3 : 0 < up.length ↔ 0 < k) (h4 : ∀ u v, up[0]? = some u → up[1]? = some v → u ≠ v) : mUp up k = true := by
 unfold mUp
 simp only [Bool.and_eq_true, decide_eq_true_eq, beq_iff_eq]
 refine ⟨allFrom_mk fun j x hx => ?_, h2, decide_eq_decide.2 h3, ?_⟩
 ·have := h1 x (List.mem_of_getElem? hx)
  simpa using this
 ·cases hu : up[0]? with
  | none => exact .inl rfl
  | some u =>
   refine .inr fun e => ?_
   exact h4 u u hu e.symm rfl
theorem mUp_parts {up : List Int} {k : Nat} (h : mUp up k = true) : (0 < up.length ↔ 0 < k) ∧ ∀ u v, up[0]? = some u → up[1]? = some v → u ≠ v := by
 unfold mUp at h
 simp only [Bool.and_eq_true, decide_eq_true_eq, beq_iff_eq] at h
 refine ⟨decide_eq_decide.1 h.2.2.1, fun u v hu hv e => ?_⟩
 subst e
 rcases h.2.2.2 with h1 | h1
 ·rw [hu] at h1; cases h1
 ·exact h1 (by rw [hu, hv])
def reup (pl : List Int) (c : Commit) : Commit := ⟨c.up.map fun u => (pl[u.toNat]?).getD 0, c.sheet, c.note⟩
def tk (A B : List Commit) (m : List Bool) : Nat → List Commit × List Int
 | 0 => (A, [])
 | k + 1 => match B[k]? with
  | some c => if (trueAt m k && decide (mSyncFind A B k < 0)) = true then ((tk A B m k).1 ++ [reup (tk A B m k).2 c], (tk A B m k).2 ++ [((tk A B m k).1.length : Int)]) else ((tk A B m k).1, (tk A B m k).2 ++ [mSyncFind A B k])
  | none => tk A B m k
structure Tk (A B : List Commit) (m : List Bool) (k : Nat) (cs : List Commit) (pl : List Int) : Prop where
 pre : ∃ X, cs = A ++ X
 len : pl.length = k
 ok : mCommits cs = true
 pl : ∀ j, j < k → trueAt m j = true → ∃ p : Nat, pl[j]? = some (p : Int) ∧ p < cs.length ∧ mSame cs B p j = true
 new : ∀ p, A.length ≤ p → p < cs.length → ∃ j, j < k ∧ trueAt m j = true ∧ mSyncFind A B j < 0 ∧ mSame cs B p j = true
 wt : wL wCommit cs ≤ wL wCommit A + wL wCommit (B.take k)
theorem tk_ok {A B : List Commit} {m : List Bool} (hA : mCommits A = true) (hB : mCommits B = true) (h0 : mSyncFind A B 0 = 0) (hm : ∀ k x, B[k]? = some x → trueAt m k = true → ∀ u ∈ x.up, 0 ≤ u ∧ u.toNat < k ∧ trueAt m u.toNat = true) : ∀ k, k ≤ B.length → Tk A B m k (tk A B m k).1 (tk A B m k).2
 | 0, _ => ⟨⟨[], by simp [tk]⟩, rfl, hA, fun j hj => by omega, fun p h1 h2 => by simp only [tk] at h2; omega, by simp [tk]⟩
 | k + 1, hk => by
  have ih := tk_ok hA hB h0 hm k (by omega)
  obtain ⟨c, hc⟩ := getI (xs := B) (i := k) (by omega)
  have hHA := hist_of hA
  have hw : wL wCommit (B.take (k + 1)) = wL wCommit (B.take k) + (wCommit c + 1) := by
   rw [List.take_add_one, hc]
   simp only [Option.toList_some]
   unfold wL
   simp only [List.length_append, List.length_singleton]
   have : ∀ (l : List Commit), sumW wCommit (l ++ [c]) = sumW wCommit l + wCommit c := by
    intro l
    induction l with
    | nil => simp [sumW]
    | cons a l ih => simp only [List.cons_append, sumW, ih]; omega
   rw [this]
   omega
  simp only [tk, hc]
  generalize hs : tk A B m k = s at ih
  obtain ⟨cs, pl⟩ := s
  simp only at ih ⊢
  have hX := hist_of ih.ok
  obtain ⟨X, hpre⟩ := ih.pre
  split
  rotate_left
  ·rename_i hno
   refine ⟨ih.pre, by simp [ih.len], ih.ok, fun j hj ht => ?_, fun p h1 h2 => ?_, by have := ih.wt; show wL wCommit cs ≤ _; omega⟩
   ·rcases Nat.eq_or_lt_of_le (Nat.le_of_lt_succ hj) with rfl | hj
    ·rcases find_get (A := A) (B := B) (k := j) with ⟨g1, g2⟩ | ⟨p, g1, g2, g3, g4⟩
     ·exfalso
      apply hno
      rw [ht, g1]
      decide
     ·refine ⟨p, by rw [List.getElem?_append_right (by rw [ih.len]; omega), ih.len, g1]; simp, ?_, ?_⟩
      ·rw [hpre, List.length_append]; omega
      ·rw [hpre, mSame_pre hHA g2]; exact g3
    ·obtain ⟨p, g1, g2, g3⟩ := ih.pl j hj ht
     exact ⟨p, by rw [List.getElem?_append_left (by rw [ih.len]; exact hj)]; exact g1, g2, g3⟩
   ·obtain ⟨j, g1, g2, g3, g4⟩ := ih.new p h1 h2
    exact ⟨j, by omega, g2, g3, g4⟩
  ·rename_i hl
   simp only [Bool.and_eq_true, decide_eq_true_eq] at hl
   obtain ⟨hl1, hl2⟩ := hl
   have hk0 : 0 < k := by
    rcases Nat.eq_zero_or_pos k with rfl | h
    ·omega
    ·exact h
   have hnone : ∀ i, i < A.length → mSame A B i k = false := by
    rcases find_get (A := A) (B := B) (k := k) with ⟨g1, g2⟩ | ⟨p, g1, g2, g3, g4⟩
    ·exact g2
    ·omega
   have hup := hm k c hc hl1
   obtain ⟨c1, c2, c3, c4⟩ := commits_up hB hc
   have hpu : ∀ u ∈ c.up, ∃ p : Nat, (pl[u.toNat]?).getD 0 = (p : Int) ∧ p < cs.length ∧ mSame cs B p u.toNat = true := fun u hu => by
    obtain ⟨d1, d2, d3⟩ := hup u hu
    obtain ⟨p, g1, g2, g3⟩ := ih.pl u.toNat d2 d3
    exact ⟨p, by rw [g1]; rfl, g2, g3⟩
   have hsame : ∀ j (x : Commit), cs[j]? = some x → x = reup pl c → mSame cs B j k = true := fun j x hx e => by
    subst e
    refine mSame_mk hX hx hc rfl rfl (by simp [reup]) fun q a b ha hb => ?_
    simp only [reup, List.getElem?_map, hb, Option.map_some, Option.some.injEq] at ha
    obtain ⟨p, g1, g2, g3⟩ := hpu b (List.mem_of_getElem? hb)
    rw [← ha, g1]
    exact g3
   have hno : mFind cs (reup pl c) < 0 := by
    rcases fst_cases (p := fun y : Commit => decide (y = reup pl c)) (l := cs) (k := 0) with h | ⟨j, x, h, hx, hp⟩
    ·have : mFind cs (reup pl c) = -1 := h
     omega
    ·exfalso
     have hs1 := hsame j x hx (by simpa using hp)
     have hj := get_lt hx
     rcases Nat.lt_or_ge j A.length with hjA | hjA
     ·rw [hpre, mSame_pre hHA hjA, hnone j hjA] at hs1
      cases hs1
     ·obtain ⟨i, g1, g2, g3, g4⟩ := ih.new j hjA hj
      have := same_inj hX hB (j + 1) j i k (by omega) g4 hs1
      omega
   have hok : mCommits (cs ++ [reup pl c]) = true := by
    refine mCommits_app ih.ok (mUp_mk (fun u hu => ?_) (by simpa [reup] using (up_lt c1).2) ?_ ?_) c2 c3 hno
    ·simp only [reup, List.mem_map] at hu
     obtain ⟨v, hv, rfl⟩ := hu
     obtain ⟨p, g1, g2, g3⟩ := hpu v hv
     rw [g1]
     omega
    ·simp only [reup, List.length_map]
     have := (mUp_parts c1).1
     have hlA : 0 < A.length := by
      rcases find_get (A := A) (B := B) (k := 0) with ⟨g1, g2⟩ | ⟨p, g1, g2, g3, g4⟩
      ·omega
      ·omega
     have : 0 < cs.length := by rw [hpre, List.length_append]; omega
     constructor
     ·intro _; exact this
     ·intro _; exact ((mUp_parts c1).1).2 hk0
    ·intro u v hu hv e
     simp only [reup, List.getElem?_map, Option.map_eq_some_iff] at hu hv
     obtain ⟨u0, hu0, hu1⟩ := hu
     obtain ⟨v0, hv0, hv1⟩ := hv
     obtain ⟨p, g1, g2, g3⟩ := hpu u0 (List.mem_of_getElem? hu0)
     obtain ⟨q, g4, g5, g6⟩ := hpu v0 (List.mem_of_getElem? hv0)
     rw [g1] at hu1
     rw [g4] at hv1
     have hpq : p = q := by omega
     subst hpq
     have := same_inj hX hB (p + 1) p _ _ (by omega) g3 g6
     have d1 := (hup u0 (List.mem_of_getElem? hu0)).1
     have d2 := (hup v0 (List.mem_of_getElem? hv0)).1
     exact (mUp_parts c1).2 u0 v0 hu0 hv0 (by omega)
   have hX' := hist_of hok
   have hlast : (cs ++ [reup pl c])[cs.length]? = some (reup pl c) := by simp
   have hself : mSame (cs ++ [reup pl c]) B cs.length k = true := by
    refine mSame_mk hX' hlast hc rfl rfl (by simp [reup]) fun q a b ha hb => ?_
    simp only [reup, List.getElem?_map, hb, Option.map_some, Option.some.injEq] at ha
    obtain ⟨p, g1, g2, g3⟩ := hpu b (List.mem_of_getElem? hb)
    rw [← ha, g1, Int.toNat_natCast, mSame_pre hX g2]
    exact g3
   refine ⟨⟨X ++ [reup pl c], by rw [hpre]; simp⟩, by simp [ih.len], hok, fun j hj ht => ?_, fun p h1 h2 => ?_, ?_⟩
   ·rcases Nat.eq_or_lt_of_le (Nat.le_of_lt_succ hj) with rfl | hj
    ·exact ⟨cs.length, by rw [List.getElem?_append_right (by rw [ih.len]; omega), ih.len]; simp, by simp, hself⟩
    ·obtain ⟨p, g1, g2, g3⟩ := ih.pl j hj ht
     exact ⟨p, by rw [List.getElem?_append_left (by rw [ih.len]; exact hj)]; exact g1, by simp; omega, by rw [mSame_pre hX g2]; exact g3⟩
   ·simp only [List.length_append, List.length_singleton] at h2
    rcases Nat.eq_or_lt_of_le (Nat.le_of_lt_succ h2) with rfl | h2
    ·exact ⟨k, by omega, hl1, hl2, hself⟩
    ·obtain ⟨j, g1, g2, g3, g4⟩ := ih.new p h1 h2
     exact ⟨j, by omega, g2, g3, by rw [mSame_pre hX h2]; exact g4⟩
   ·have h1 := ih.wt
    have h2 : wL wCommit (cs ++ [reup pl c]) = wL wCommit cs + (wCommit c + 1) := by
     have e0 : wCommit (reup pl c) = wCommit c := by
      unfold wCommit reup wL
      simp only [List.length_map]
      have : ∀ l : List Int, sumW w0 l = 0 := by
       intro l
       induction l with
       | nil => rfl
       | cons a l ih => simp only [sumW, ih]; rfl
      rw [this, this]
     unfold wL
     simp only [List.length_append, List.length_singleton]
     have : ∀ (l : List Commit) (c : Commit), sumW wCommit (l ++ [c]) = sumW wCommit l + wCommit c := by
      intro l c
      induction l with
      | nil => simp [sumW]
      | cons a l ih => simp only [List.cons_append, sumW, ih]; omega
     rw [this, e0]
     omega
    show wL wCommit (cs ++ [reup pl c]) ≤ _
    omega
theorem mget_put {es : List (Int × Int)} {k v i : Int} : mget (mput es k v) i = if i = k then v else mget es i := by
 induction es with
 | nil =>
  simp only [mput, mget]
 | cons p es ih =>
  simp only [mput]
  by_cases h : k = p.1
  ·rw [if_pos h]
   simp only [mget]
   by_cases h2 : i = k
   ·rw [if_pos h2, if_pos h2]
   ·rw [if_neg h2, if_neg h2, if_neg (by rw [← h]; exact h2)]
  ·rw [if_neg h]
   simp only [mget]
   by_cases h2 : i = p.1
   ·rw [if_pos h2, if_pos h2, if_neg (by rw [h2]; exact Ne.symm h)]
   ·rw [if_neg h2, if_neg h2, ih]
theorem hist_marks {B : List Commit} (hB : Hist B) {F : List Nat} : ∀ k x, B[k]? = some x → trueAt (mark B F) k = true → ∀ u ∈ x.up, 0 ≤ u ∧ u.toNat < k ∧ trueAt (mark B F) u.toNat = true := fun k x hx hm => mark_up hB hx hm
theorem i_take1 {a b : Repo} (ha : mRepo a = true) (hb : mRepo b = true) (hwa : wRepo a ≤ 1048576) (hwb : wRepo b ≤ 1048576) : ∀ (l : List Commit) (k : Nat) (es : List (Int × Int)), b.commits.drop k = l → ∃ es', gl_at9_1 a b l k es = some es' ∧ ∀ i : Nat, mget es' (i : Int) = if k ≤ i ∧ i < b.commits.length then mSyncFind a.commits b.commits i else mget es (i : Int)
 | [], k, es, h => ⟨es, rfl, fun i => by
   have : b.commits.length ≤ k := by rw [← List.drop_eq_nil_iff]; exact h
   rw [if_neg (by omega)]⟩
 | x :: l, k, es, h => by
  have hk := drop_len h
  have hf := i_SyncFind (k := (k : Int)) hwa hwb
  rw [if_pos (by simp [ha, hb, hk]), Int.toNat_natCast] at hf
  obtain ⟨es', h1, h2⟩ := i_take1 ha hb hwa hwb l (k + 1) (mput es (k : Int) (mSyncFind a.commits b.commits k)) (drop_next h)
  refine ⟨es', ?_, fun i => ?_⟩
  ·simp only [gl_at9_1, hf, Option.bind_some]
   exact h1
  ·rw [h2, mget_put]
   by_cases e : i = k
   ·subst e
    rw [if_neg (by omega), if_pos rfl, if_pos ⟨Nat.le_refl _, hk⟩]
   ·rw [if_neg (show ¬ (i : Int) = (k : Int) by omega)]
    by_cases e2 : k + 1 ≤ i ∧ i < b.commits.length
    ·rw [if_pos e2, if_pos (by omega)]
    ·rw [if_neg e2, if_neg (by omega)]
theorem set_take {α : Type} {v : List α} {k : Nat} {y : α} {l : List α} (hk : k < v.length) : (v.set k y).take (k + 1) ++ l = v.take k ++ y :: l := by
 rw [List.take_add_one, List.getElem?_set_self hk, List.take_set_of_le (Nat.le_refl _)]
 simp
theorem i_take6 {es : List (Int × Int)} : ∀ (l : List Int) (k : Nat) (v : List Int), v.drop k = l → gl_at9_6 es l k v = some (v.take k ++ l.map (mget es))
 | [], k, v, h => by
  simp only [gl_at9_6, List.map_nil, List.append_nil]
  rw [List.take_of_length_le (List.drop_eq_nil_iff.1 h)]
 | x :: l, k, v, h => by
  have hy := drop_get h
  have hk := get_lt hy
  simp only [gl_at9_6, idx_nat, hy, Option.bind_some, Int.toNat_natCast]
  rw [i_take6 l (k + 1) _ (by rw [List.drop_set_of_lt (by omega)]; exact drop_next h), set_take hk]
  rfl
theorem map_reup {es : List (Int × Int)} {pl : List Int} {c : Commit} {k : Nat} (hl : pl.length = k) (hu : ∀ u ∈ c.up, 0 ≤ u ∧ u.toNat < k) (he : ∀ i : Nat, i < k → pl[i]? = some (mget es (i : Int))) : c.up.map (mget es) = (reup pl c).up := by
 unfold reup
 simp only
 refine List.map_congr_left fun u h => ?_
 obtain ⟨h1, h2⟩ := hu u h
 rw [he u.toNat h2]
 simp only [Option.getD_some]
 rw [Int.toNat_of_nonneg h1]
theorem i_take5 {A : List Commit} {b : Repo} {t : Nat} (hA : mCommits A = true) (hB : mCommits b.commits = true) (h0 : mSyncFind A b.commits 0 = 0) (hwb : wRepo b ≤ 1048576) (hwl : wL wCommit A + wL wCommit b.commits ≤ 1048576) : ∀ (n k q : Nat) (es : List (Int × Int)), k + n = b.commits.length → (∀ i : Nat, i < b.commits.length → (if i < k then (tk A b.commits (mark b.commits [t]) k).2[i]? = some (mget es (i : Int)) else mget es (i : Int) = mSyncFind A b.commits i)) →
  ∃ es', gl_at9_5 b (upL (lackP A b.commits t) n k) q (tk A b.commits (mark b.commits [t]) k).1 es = some ((tk A b.commits (mark b.commits [t]) b.commits.length).1, es') ∧ ∀ i : Nat, i < b.commits.length → (tk A b.commits (mark b.commits [t]) b.commits.length).2[i]? = some (mget es' (i : Int))
 | 0, k, q, es, hk, he => by
  have : k = b.commits.length := by omega
  subst this
  refine ⟨es, rfl, fun i hi => ?_⟩
  have := he i hi
  rwa [if_pos hi] at this
 | n + 1, k, q, es, hk, he => by
  have hkl : k < b.commits.length := by omega
  obtain ⟨c, hc⟩ := getI hkl
  have hT := tk_ok hA hB h0 (hist_marks (hist_of hB) (F := [t])) k (by omega)
  have hT1 := tk_ok hA hB h0 (hist_marks (hist_of hB) (F := [t])) (k + 1) (by omega)
  have htk : (if (trueAt (mark b.commits [t]) k && decide (mSyncFind A b.commits k < 0)) = true then tk A b.commits (mark b.commits [t]) (k + 1) = ((tk A b.commits (mark b.commits [t]) k).1 ++ [reup (tk A b.commits (mark b.commits [t]) k).2 c], (tk A b.commits (mark b.commits [t]) k).2 ++ [((tk A b.commits (mark b.commits [t]) k).1.length : Int)]) else tk A b.commits (mark b.commits [t]) (k + 1) = ((tk A b.commits (mark b.commits [t]) k).1, (tk A b.commits (mark b.commits [t]) k).2 ++ [mSyncFind A b.commits k])) := by
   split
   ·rename_i h
    conv => lhs; simp only [tk, hc]
    rw [if_pos h]
   ·rename_i h
    conv => lhs; simp only [tk, hc]
    rw [if_neg h]
  simp only [upL]
  generalize hs : tk A b.commits (mark b.commits [t]) k = s at hT htk he ⊢
  obtain ⟨cs, pl⟩ := s
  simp only at hT htk he ⊢
  by_cases hl : (trueAt (mark b.commits [t]) k && decide (mSyncFind A b.commits k < 0)) = true
  ·rw [if_pos hl] at htk
   rw [if_pos (show lackP A b.commits t k = true from hl)]
   have hwc : wCommit c ≤ 1048576 := by
    have := sum_mem (w := wCommit) (List.mem_of_getElem? hc)
    unfold wL at hwl
    omega
   have hu : c.up.length ≤ 1048576 := by unfold wCommit at hwc; unfold wL at hwc; omega
   have hmu := mark_up (hist_of hB) hc (by simp only [Bool.and_eq_true] at hl; exact hl.1)
   have hr : c.up.map (mget es) = (reup pl c).up := map_reup hT.len (fun u h => ⟨(hmu u h).1, (hmu u h).2.1⟩) fun i hi => by
    have := he i (by omega)
    rwa [if_pos hi] at this
   have hcl : (cs ++ [(⟨(reup pl c).up, c.sheet, c.note⟩ : Commit)]).length ≤ 1048576 := by
    have h1 := hT1.wt
    rw [htk] at h1
    have h2 : wL wCommit (b.commits.take (k + 1)) ≤ wL wCommit b.commits := wL_sub (List.take_sublist _ _)
    have h3 : (cs ++ [reup pl c]).length ≤ wL wCommit (cs ++ [reup pl c]) := by unfold wL; omega
    simp only at h1
    simp only [List.length_append, List.length_singleton] at h3 ⊢
    omega
   obtain ⟨es', e1, e2⟩ := i_take5 hA hB h0 hwb hwl n (k + 1) (q + 1) (mput es (k : Int) (cs.length : Int)) (by omega) (fun i hi => by
    rw [htk]
    simp only
    rw [mget_put]
    by_cases e : i = k
    ·subst e
     rw [if_pos (by omega), if_pos rfl, List.getElem?_append_right (by rw [hT.len]; omega), hT.len]
     simp
    ·rw [if_neg (show ¬ (i : Int) = (k : Int) by omega)]
     have := he i hi
     by_cases e3 : i < k
     ·rw [if_pos e3] at this
      rw [if_pos (by omega), List.getElem?_append_left (by rw [hT.len]; exact e3)]
      exact this
     ·rw [if_neg e3] at this
      rw [if_neg (by omega)]
      exact this)
   refine ⟨es', ?_, e2⟩
   have ecs : (tk A b.commits (mark b.commits [t]) (k + 1)).1 = cs ++ [(⟨(reup pl c).up, c.sheet, c.note⟩ : Commit)] := by rw [htk]; rfl
   rw [ecs] at e1
   simp only [gl_at9_5, idx_nat, hc, Option.bind_some, i_cloneCommit hwc]
   rw [if_pos (fits_small hu), i_take6 c.up 0 c.up rfl, Option.bind_some]
   simp only [List.take_zero, List.nil_append, hr]
   rw [if_pos (fits_small hcl)]
   exact e1
  ·rw [if_neg hl] at htk
   rw [if_neg (show ¬ lackP A b.commits t k = true from hl)]
   obtain ⟨es', e1, e2⟩ := i_take5 hA hB h0 hwb hwl n (k + 1) q es (by omega) (fun i hi => by
    rw [htk]
    simp only
    have := he i hi
    by_cases e : i = k
    ·subst e
     rw [if_neg (by omega)] at this
     rw [if_pos (by omega), List.getElem?_append_right (by rw [hT.len]; omega), hT.len, this]
     simp
    ·by_cases e3 : i < k
     ·rw [if_pos e3] at this
      rw [if_pos (by omega), List.getElem?_append_left (by rw [hT.len]; exact e3)]
      exact this
     ·rw [if_neg e3] at this
      rw [if_neg (by omega)]
      exact this)
   refine ⟨es', ?_, e2⟩
   have ecs : (tk A b.commits (mark b.commits [t]) (k + 1)).1 = cs := by rw [htk]
   rw [ecs] at e1
   exact e1
theorem mark_self {B : List Commit} {t : Nat} (h : t < B.length) : trueAt (mark B [t]) t = true := mark_head (by simp) h
theorem tk_wt {a b : Repo} (hw : wRepo a + wRepo b ≤ 1048576) {k : Nat} {m : List Bool} {cs : List Commit} {pl : List Int} (h : Tk a.commits b.commits m k cs pl) : wRepo ⟨cs, a.heads⟩ ≤ wRepo a + wRepo b ∧ cs.length ≤ 1048576 := by
 have h1 := h.wt
 have h2 : wL wCommit (b.commits.take k) ≤ wL wCommit b.commits := wL_sub (List.take_sublist _ _)
 have h3 : cs.length ≤ wL wCommit cs := by unfold wL; omega
 unfold wRepo at hw ⊢
 simp only
 omega
def tkN (a b : Repo) (m : List Bool) : List Commit := (tk a.commits b.commits m b.commits.length).1
def tkP (a b : Repo) (m : List Bool) (t : Nat) : Nat := ((tk a.commits b.commits m b.commits.length).2[t]?.getD 0).toNat
theorem tk_facts {a b : Repo} {t : Nat} (hA : mCommits a.commits = true) (hB : mCommits b.commits = true) (h0 : mSyncFind a.commits b.commits 0 = 0) (ht : t < b.commits.length) : tkP a b (mark b.commits [t]) t < (tkN a b (mark b.commits [t])).length ∧ mSame (tkN a b (mark b.commits [t])) b.commits (tkP a b (mark b.commits [t]) t) t = true ∧ Tk a.commits b.commits (mark b.commits [t]) b.commits.length (tkN a b (mark b.commits [t])) (tk a.commits b.commits (mark b.commits [t]) b.commits.length).2 := by
 have hT := tk_ok hA hB h0 (hist_marks (hist_of hB) (F := [t])) b.commits.length (Nat.le_refl _)
 obtain ⟨p, g1, g2, g3⟩ := hT.pl t ht (mark_self ht)
 have hp : tkP a b (mark b.commits [t]) t = p := by unfold tkP; rw [g1]; rfl
 exact ⟨by rw [hp]; exact g2, by rw [hp]; exact g3, hT⟩
open Classical in
noncomputable def mTakeAt (a b : Repo) (n : Str) (t : Nat) : Repo × Int :=
 if 14 < (tkN a b (mark b.commits [t])).length then (a, 2)
 else if mHead a.heads n < 0 then (if 4 ≤ a.heads.length then (a, 2) else (⟨tkN a b (mark b.commits [t]), a.heads ++ [⟨n, (tkP a b (mark b.commits [t]) t : Int)⟩]⟩, 0))
 else match a.heads[(mHead a.heads n).toNat]? with
  | some h => if Anc (tkN a b (mark b.commits [t])) h.at_.toNat (tkP a b (mark b.commits [t]) t) then (⟨tkN a b (mark b.commits [t]), a.heads⟩, 3)
   else if Anc (tkN a b (mark b.commits [t])) (tkP a b (mark b.commits [t]) t) h.at_.toNat then (⟨tkN a b (mark b.commits [t]), a.heads.set (mHead a.heads n).toNat ⟨h.name, (tkP a b (mark b.commits [t]) t : Int)⟩⟩, 0)
   else (a, 2)
  | none => (a, 2)
noncomputable def mTake (a b : Repo) (n : Str) : Repo × Int :=
 if mRepo a = true ∧ mRepo b = true then
  (if mRepoAt b n < 0 ∨ ¬ mSyncFind a.commits b.commits 0 = 0 then (a, 1) else mTakeAt a b n (mRepoAt b n).toNat)
 else (⟨[], []⟩, 4)
theorem tk_repo {a : Repo} {cs X : List Commit} (ha : mRepo a = true) (hc : mCommits cs = true) (hl : cs.length ≤ 14) (hp : cs = a.commits ++ X) : mRepo ⟨cs, a.heads⟩ = true := by
 obtain ⟨h1, h2, h3, h4⟩ := repo_parts.1 ha
 have e : a.commits.length ≤ cs.length := by rw [hp, List.length_append]; omega
 refine repo_parts.2 ⟨⟨by show 1 ≤ cs.length; omega, hl⟩, h2, hc, ?_⟩
 refine allFrom_imp (fun j x hx hp => ?_) h4
 simp only [Nat.zero_add, Bool.and_eq_true, decide_eq_true_eq] at hp ⊢
 exact ⟨hp.1, hp.2.1, hp.2.2.1, by omega⟩
theorem find0 {A B : List Commit} (hA : 0 < A.length) : (mSyncFind A B 0 = 0) ↔ mSame A B 0 0 = true := by
 rcases find_get (A := A) (B := B) (k := 0) with ⟨g1, g2⟩ | ⟨p, g1, g2, g3, g4⟩
 ·rw [g1, g2 0 hA]
  simp
 ·rw [g1]
  constructor
  ·intro h
   have : p = 0 := by omega
   rw [this] at g3
   exact g3
  ·intro h
   rcases Nat.eq_zero_or_pos p with rfl | h2
   ·rfl
   ·rw [g4 0 h2] at h
    cases h
open Classical in
theorem i_SyncTake {a b : Repo} {n : Str} (hw : wRepo a + wRepo b ≤ 1048576) : gf_at9 a b n = some (mTake a b n) := by
 have hha : a.heads.length ≤ 1048576 := by unfold wRepo wL at hw; omega
 have hhb : b.heads.length ≤ 1048576 := by unfold wRepo wL at hw; omega
 have hlb : b.commits.length ≤ 1048576 := by unfold wRepo wL at hw; omega
 have hcl := i_cloneRepo (r := a) (by omega)
 unfold gf_at9 mTake
 rw [i_RepoOk (by omega), Option.bind_some]
 by_cases ha : mRepo a = true
 rotate_left
 ·rw [if_pos (by simpa using ha), if_neg (by simp [ha])]
 rw [if_neg (by simp [ha]), i_RepoOk (by omega), Option.bind_some]
 by_cases hb : mRepo b = true
 rotate_left
 ·rw [if_pos (by simpa using hb), if_neg (by simp [hb])]
 rw [if_neg (by simp [hb]), if_pos ⟨ha, hb⟩, i_Repo_head hhb, Option.bind_some]
 have hbl := repo_len hb
 have hal := repo_len ha
 rcases repoAt_cases b n with ⟨h1, h2⟩ | ⟨k, t, hd, _, h1, h2, h3, h4, h5, h6⟩
 ·rw [h2 hb, if_pos (by decide), Option.bind_some, if_pos rfl, hcl, Option.bind_some, if_pos (.inl (by rw [h1]; decide))]
 have hf := i_SyncSame (a := a) (b := b) (i := 0) (k := 0) (by omega) (by omega)
 have e0 : (mRepo a && (decide ((0 : Int) ≤ 0) && decide ((0 : Int) < (a.commits.length : Int)))) = true := by rw [ha]; simp; omega
 have e1 : (mRepo b && (decide ((0 : Int) ≤ 0) && decide ((0 : Int) < (b.commits.length : Int)))) = true := by rw [hb]; simp; omega
 rw [e0, e1, Bool.true_and, Bool.true_and, Int.toNat_zero] at hf
 rw [h1, if_neg (by simp), hf, Option.bind_some, Option.bind_some, h6]
 by_cases h0 : mSyncFind a.commits b.commits 0 = 0
 rotate_left
 ·have := mt (find0 (A := a.commits) (B := b.commits) (by omega)).2 h0
  rw [if_pos (by simpa using this), hcl, Option.bind_some, if_pos (.inr h0)]
 have hs0 := (find0 (A := a.commits) (B := b.commits) (by omega)).1 h0
 rw [if_neg (by simp [hs0]), hcl, Option.bind_some, if_pos (fits_small hlb), if_neg (by simp [h0])]
 obtain ⟨c2, c3, c4⟩ := tk_facts (repo_commits ha) (repo_commits hb) h0 h5
 have hwt := tk_wt hw c4
 obtain ⟨X, hpre⟩ := c4.pre
 obtain ⟨es, f1, f2⟩ := i_take1 ha hb (by omega) (by omega) b.commits 0 [] rfl
 have hwl : wL wCommit a.commits + wL wCommit b.commits ≤ 1048576 := by unfold wRepo at hw; omega
 obtain ⟨es', f3, f4⟩ := i_take5 (A := a.commits) (b := b) (t := t) (repo_commits ha) (repo_commits hb) h0 (by omega) hwl b.commits.length 0 0 es (by omega) (fun i hi => by
  rw [if_neg (by omega), f2, if_pos (by omega)])
 have hlk : mSyncLack a b n = upL (lackP a.commits b.commits t) b.commits.length 0 := by
  unfold mSyncLack mLack
  rw [if_pos ha, h6, if_neg (by omega), Int.toNat_natCast]
 have hll := mSyncLack_len (a := a) (b := b) (n := n)
 have f3' : gl_at9_5 b (upL (lackP a.commits b.commits t) b.commits.length 0) 0 a.commits es = some (tkN a b (mark b.commits [t]), es') := f3
 have hpl : mget es' (t : Int) = (tkP a b (mark b.commits [t]) t : Int) := by
  have := f4 t h5
  obtain ⟨p, g1, g2, g3⟩ := c4.pl t h5 (mark_self h5)
  rw [g1] at this
  unfold tkP
  rw [g1]
  simp only [Option.some.injEq] at this
  rw [← this]
  rfl
 rw [f1, Option.bind_some, i_SyncLack (by omega) (by omega), Option.bind_some, if_pos (fits_small (by omega)), hlk, f3', Option.bind_some, idx_nat, h2, Option.bind_some, Int.toNat_natCast]
 simp only [h4, hpl]
 unfold mTakeAt
 generalize tkN a b (mark b.commits [t]) = cs at c2 c3 c4 hwt hpre ⊢
 generalize tkP a b (mark b.commits [t]) t = p at c2 c3 ⊢
 by_cases h14 : 14 < cs.length
 ·rw [if_pos (by simp; omega), if_pos h14, Option.bind_some]
 have hr : mRepo ⟨cs, a.heads⟩ = true := tk_repo ha c4.ok (by omega) hpre
 rw [if_neg (by simp; omega), if_neg h14, i_Repo_head (r := ⟨cs, a.heads⟩) hha, Option.bind_some]
 simp only
 by_cases hk : mHead a.heads n < 0
 ·rw [if_pos (by simpa using hk), if_pos hk]
  by_cases h4 : 4 ≤ a.heads.length
  ·rw [if_pos (by simp; omega), if_pos h4, Option.bind_some]
  ·rw [if_neg (by simp; omega), if_neg h4, if_pos (fits_small (by simp; omega))]
 ·rw [if_neg (by simpa using hk), if_neg hk]
  have hrg := mHead_range (hs := a.heads) (n := n)
  obtain ⟨h, hh⟩ := getI (xs := a.heads) (i := (mHead a.heads n).toNat) (by omega)
  obtain ⟨q1, q2, q3, q4⟩ := hd_parts ha hh
  have hat : h.at_.toNat < cs.length := by rw [hpre, List.length_append]; omega
  have hA1 : ∀ (v : Int), 0 ≤ v → v.toNat < cs.length → gf_aj9 ⟨cs, a.heads⟩ v = some (mark cs [v.toNat]) := fun v v0 v1 => by
   have e3 := i_past (r := ⟨cs, a.heads⟩) (k := v.toNat) (hist_of c4.ok) hwt.2 v1
   rwa [Int.toNat_of_nonneg v0] at e3
  rw [idx_int (by omega), hh, Option.bind_some]
  simp only
  rw [hA1 h.at_ q3 hat, Option.bind_some, idx_nat, mark1_get c2, Option.bind_some]
  by_cases g1 : Anc cs h.at_.toNat p
  ·rw [if_pos (by simpa using g1), if_pos g1]
  ·rw [if_neg (by simpa using g1), if_neg g1, hA1 p (by omega) (by simpa using c2), Option.bind_some, Int.toNat_natCast, idx_int q3, mark1_get hat, Option.bind_some]
   by_cases g2 : Anc cs p h.at_.toNat
   ·rw [if_pos (by simpa using g2), if_pos g2]
   ·rw [if_neg (by simpa using g2), if_neg g2, Option.bind_some]
structure Took (a b : Repo) (n : Str) (t : Nat) (cs : List Commit) (p : Nat) : Prop where
 ra : mRepo a = true
 rb : mRepo b = true
 at_ : mRepoAt b n = (t : Int)
 tl : t < b.commits.length
 f0 : mSyncFind a.commits b.commits 0 = 0
 tk : Tk a.commits b.commits (mark b.commits [t]) b.commits.length cs (tk a.commits b.commits (mark b.commits [t]) b.commits.length).2
 pl : p < cs.length
 same : mSame cs b.commits p t = true
 cn : cs = tkN a b (mark b.commits [t])
 pn : p = tkP a b (mark b.commits [t]) t
theorem took_of {a b : Repo} {n : Str} (hw : wRepo a + wRepo b ≤ 1048576) (ha : mRepo a = true) (hb : mRepo b = true) (h1 : ¬ mRepoAt b n < 0) (h0 : mSyncFind a.commits b.commits 0 = 0) : ∃ (t p : Nat) (cs : List Commit), Took a b n t cs p := by
 rcases repoAt_cases b n with ⟨e1, e2⟩ | ⟨k, t, hd, _, e1, e2, e3, e4, e5, e6⟩
 ·rw [e1] at h1; exact absurd (by decide) h1
 ·obtain ⟨c2, c3, c4⟩ := tk_facts (repo_commits ha) (repo_commits hb) h0 e5
  exact ⟨t, _, _, ha, hb, e6, e5, h0, c4, c2, c3, rfl, rfl⟩
theorem Took.heads {a b : Repo} {n : Str} {t p : Nat} {cs : List Commit} (h : Took a b n t cs p) : mHead a.heads n < 0 ∨ ∃ (i u : Nat) (z : Head), mHead a.heads n = (i : Int) ∧ a.heads[i]? = some z ∧ z.name = n ∧ z.at_ = (u : Int) ∧ u < a.commits.length ∧ u < cs.length := by
 obtain ⟨X, hX⟩ := h.tk.pre
 rcases head_at (n := n) h.ra with e | ⟨k, u, z, e1, e2, e3, e4, e5⟩
 ·left; rw [e]; decide
 ·exact .inr ⟨k, u, z, e1, e2, e3, e4, e5, by rw [hX, List.length_append]; omega⟩
open Classical in
theorem Took.eq {a b : Repo} {n : Str} {t p : Nat} {cs : List Commit} (h : Took a b n t cs p) : mTake a b n = if 14 < cs.length then (a, (2 : Int))
 else if mHead a.heads n < 0 then (if 4 ≤ a.heads.length then (a, 2) else (⟨cs, a.heads ++ [⟨n, (p : Int)⟩]⟩, 0))
 else match a.heads[(mHead a.heads n).toNat]? with
  | some h => if Anc cs h.at_.toNat p then (⟨cs, a.heads⟩, 3)
   else if Anc cs p h.at_.toNat then (⟨cs, a.heads.set (mHead a.heads n).toNat ⟨h.name, (p : Int)⟩⟩, 0)
   else (a, 2)
  | none => (a, 2) := by
 unfold mTake
 rw [if_pos ⟨h.ra, h.rb⟩, h.at_, if_neg (by have := h.f0; simp [this]), Int.toNat_natCast, h.cn, h.pn]
 rfl
open Classical in
theorem take_cases {a b : Repo} {n : Str} (hw : wRepo a + wRepo b ≤ 1048576) : (¬ (mRepo a = true ∧ mRepo b = true) ∧ mTake a b n = (⟨[], []⟩, 4)) ∨ (mRepo a = true ∧ mRepo b = true ∧ (mRepoAt b n < 0 ∨ ¬ mSyncFind a.commits b.commits 0 = 0) ∧ mTake a b n = (a, 1)) ∨
  ∃ (t p : Nat) (cs : List Commit), Took a b n t cs p ∧ (mTake a b n = (a, 2) ∨ cs.length ≤ 14 ∧ mRepo ⟨cs, a.heads⟩ = true ∧ ((mHead a.heads n < 0 ∧ a.heads.length < 4 ∧ mTake a b n = (⟨cs, a.heads ++ [⟨n, (p : Int)⟩]⟩, 0)) ∨
   ∃ (i u : Nat) (z : Head), mHead a.heads n = (i : Int) ∧ a.heads[i]? = some z ∧ z.name = n ∧ z.at_ = (u : Int) ∧ u < a.commits.length ∧ ((Anc cs u p ∧ mTake a b n = (⟨cs, a.heads⟩, 3)) ∨ (¬ Anc cs u p ∧ Anc cs p u ∧ mTake a b n = (⟨cs, a.heads.set i ⟨z.name, (p : Int)⟩⟩, 0))))) := by
 by_cases hab : mRepo a = true ∧ mRepo b = true
 rotate_left
 ·exact .inl ⟨hab, by unfold mTake; rw [if_neg hab]⟩
 obtain ⟨ha, hb⟩ := hab
 by_cases h1 : mRepoAt b n < 0 ∨ ¬ mSyncFind a.commits b.commits 0 = 0
 ·exact .inr (.inl ⟨ha, hb, h1, by unfold mTake; rw [if_pos ⟨ha, hb⟩, if_pos h1]⟩)
 obtain ⟨h1, h0⟩ := not_or.1 h1
 have h0 := Classical.not_not.1 h0
 obtain ⟨t, p, cs, hT⟩ := took_of hw ha hb h1 h0
 obtain ⟨X, hX⟩ := hT.tk.pre
 refine .inr (.inr ⟨t, p, cs, hT, ?_⟩)
 rw [hT.eq]
 by_cases h14 : 14 < cs.length
 ·exact .inl (by rw [if_pos h14])
 have hr := tk_repo ha hT.tk.ok (by omega) hX
 rw [if_neg h14]
 rcases hT.heads with hk | ⟨i, u, z, e1, e2, e3, e4, e5, e6⟩
 ·rw [if_pos hk]
  by_cases h4 : 4 ≤ a.heads.length
  ·exact .inl (by rw [if_pos h4])
  ·exact .inr ⟨by omega, hr, .inl ⟨hk, by omega, by rw [if_neg h4]⟩⟩
 ·rw [if_neg (by omega), e1, Int.toNat_natCast, e2]
  simp only [e4, Int.toNat_natCast]
  by_cases g1 : Anc cs u p
  ·exact .inr ⟨by omega, hr, .inr ⟨i, u, z, rfl, e2, e3, e4, e5, .inl ⟨g1, by rw [if_pos g1]⟩⟩⟩
  ·by_cases g2 : Anc cs p u
   ·exact .inr ⟨by omega, hr, .inr ⟨i, u, z, rfl, e2, e3, e4, e5, .inr ⟨g1, g2, by rw [if_neg g1, if_pos g2]⟩⟩⟩
   ·exact .inl (by rw [if_neg g1, if_neg g2])
theorem mSame_refl {A : List Commit} (hA : Hist A) : ∀ (n i : Nat), i < n → i < A.length → mSame A A i i = true
 | 0, _, h, _ => by omega
 | n + 1, i, h, hi => by
  obtain ⟨x, hx⟩ := getI hi
  refine mSame_mk hA hx hx rfl rfl rfl fun j a b ha hb => ?_
  rw [ha] at hb
  cases hb
  have := hA.lt i x hx a (List.mem_of_getElem? ha)
  exact mSame_refl hA n _ (by omega) (by omega)
theorem mSame_sym {A B : List Commit} (hA : Hist A) (hB : Hist B) {i j : Nat} (h : mSame A B i j = true) : mSame B A j i = true := by
 obtain ⟨x, y, hx, hy⟩ := mSame_get h
 rw [← mSame_comm hA hB (i + 1) i j (by omega) (get_lt hx) (get_lt hy)]
 exact h
theorem same_inj1 {A B : List Commit} (hA : mCommits A = true) (hB : Hist B) {p q u : Nat} (h1 : mSame A B p u = true) (h2 : mSame A B q u = true) : p = q :=
 same_inj hB hA (u + 1) u p q (by omega) (mSame_sym (hist_of hA) hB h1) (mSame_sym (hist_of hA) hB h2)
theorem find_at {A B : List Commit} (hA : mCommits A = true) (hB : Hist B) {p k : Nat} (h : mSame A B p k = true) : mSyncFind A B k = (p : Int) := by
 obtain ⟨x, y, hx, hy⟩ := mSame_get h
 rcases find_get (A := A) (B := B) (k := k) with ⟨g1, g2⟩ | ⟨q, g1, g2, g3, g4⟩
 ·rw [g2 p (get_lt hx)] at h; cases h
 ·rw [g1, same_inj1 hA hB g3 h]
theorem Took.hist {a b : Repo} {n : Str} {t p : Nat} {cs : List Commit} (h : Took a b n t cs p) : Hist a.commits ∧ Hist b.commits ∧ Hist cs := ⟨repo_hist h.ra, repo_hist h.rb, hist_of h.tk.ok⟩
theorem Took.all {a b : Repo} {n : Str} {t p : Nat} {cs : List Commit} (h : Took a b n t cs p) {j : Nat} (hj : Anc b.commits t j) : ∃ q, q < cs.length ∧ mSame cs b.commits q j = true := by
 have hl := hj.le h.hist.2.1
 have hjl : j < b.commits.length := by have := h.tl; omega
 have : trueAt (mark b.commits [t]) j = true := by
  obtain ⟨v, hv, he⟩ := mark_get (F := [t]) hjl
  unfold trueAt
  rw [hv, he.2 ⟨t, by simp, hj⟩]
  rfl
 obtain ⟨q, h1, h2, h3⟩ := h.tk.pl j hjl this
 exact ⟨q, h2, h3⟩
theorem mark_true {B : List Commit} {t j : Nat} (h : trueAt (mark B [t]) j = true) : j < B.length ∧ Anc B t j := by
 have hj := trueAt_lt h
 rw [mark_len] at hj
 obtain ⟨v, hv, he⟩ := mark_get (F := [t]) hj
 unfold trueAt at h
 rw [hv] at h
 have hv' : v = true := by simpa using h
 obtain ⟨f, hf, ha⟩ := he.1 hv'
 simp only [List.mem_singleton] at hf
 subst hf
 exact ⟨hj, ha⟩
theorem Took.from {a b : Repo} {n : Str} {t p : Nat} {cs : List Commit} (h : Took a b n t cs p) {q : Nat} (h1 : a.commits.length ≤ q) (h2 : q < cs.length) : ∃ j, Anc b.commits t j ∧ j < b.commits.length ∧ mSyncFind a.commits b.commits j < 0 ∧ mSame cs b.commits q j = true := by
 obtain ⟨j, g1, g2, g3, g4⟩ := h.tk.new q h1 h2
 obtain ⟨g5, g6⟩ := mark_true g2
 exact ⟨j, g6, g5, g3, g4⟩
theorem tk_upL {A B : List Commit} {t : Nat} : ∀ (n k : Nat), k + n = B.length → (tk A B (mark B [t]) B.length).1.length = (tk A B (mark B [t]) k).1.length + (upL (lackP A B t) n k).length
 | 0, k, h => by
  have : k = B.length := by omega
  subst this
  rfl
 | n + 1, k, h => by
  obtain ⟨c, hc⟩ := getI (xs := B) (i := k) (by omega)
  rw [tk_upL n (k + 1) (by omega)]
  conv => lhs; simp only [tk, hc]
  simp only [upL]
  by_cases hl : (trueAt (mark B [t]) k && decide (mSyncFind A B k < 0)) = true
  ·rw [if_pos hl, if_pos (show lackP A B t k = true from hl)]
   simp
   omega
  ·rw [if_neg hl, if_neg (show ¬ lackP A B t k = true from hl)]
theorem Took.lack {a b : Repo} {n : Str} {t p : Nat} {cs : List Commit} (h : Took a b n t cs p) : cs.length = a.commits.length + (mSyncLack a b n).length := by
 have := tk_upL (A := a.commits) (B := b.commits) (t := t) b.commits.length 0 (by omega)
 have e : mSyncLack a b n = upL (lackP a.commits b.commits t) b.commits.length 0 := by
  unfold mSyncLack mLack
  rw [if_pos h.ra, h.at_, if_neg (by omega), Int.toNat_natCast]
 rw [e, h.cn]
 exact this
theorem upL_nil {p : Nat → Bool} : ∀ (n k : Nat), (∀ i, k ≤ i → i < k + n → p i = false) → upL p n k = []
 | 0, k, h => rfl
 | n + 1, k, h => by
  simp only [upL]
  rw [h k (Nat.le_refl _) (by omega), if_neg (by decide)]
  exact upL_nil n (k + 1) fun i h1 h2 => h i (by omega) (by omega)
theorem lack_nil {a b : Repo} {n : Str} (h : ∀ t : Nat, mRepoAt b n = (t : Int) → t < b.commits.length → mRepo a = true → mRepo b = true → ∀ j, Anc b.commits t j → j < b.commits.length → ¬ mSyncFind a.commits b.commits j < 0) : mSyncLack a b n = [] := by
 unfold mSyncLack
 split
 ·rename_i ha
  rcases repoAt_cases b n with ⟨e1, e2⟩ | ⟨k, t, hd, hb, e1, e2, e3, e4, e5, e6⟩
  ·rw [e1]; rfl
  ·rw [e6, if_neg (by omega), Int.toNat_natCast]
   refine upL_nil _ _ fun i _ hi => ?_
   simp only [Nat.zero_add] at hi
   unfold lackP
   by_cases hm : trueAt (mark b.commits [t]) i = true
   ·have := h t e6 e5 ha hb i (mark_true hm).2 hi
    simp [this]
   ·simp only [Bool.not_eq_true] at hm
    rw [hm]
    rfl
 ·rfl
theorem dr_SyncLack (code : List UInt8) : ∃ a b n, gf_bt9 code = some (a, b, n) ∧ bR a ∧ bR b ∧ n ∈ ([(⟨#[109, 97, 105, 110]⟩ : Str), (⟨#[97, 110, 110]⟩ : Str), (⟨#[98, 111, 98]⟩ : Str), (⟨#[99, 97, 116]⟩ : Str)] : List Str) := by
 obtain ⟨bs, h0, hb⟩ := dr_open code
 obtain ⟨a, c, p1, h1, a1, b1, ha, hc⟩ := dr_l10Two (b := bs) (p := 0) hb (by omega) (by omega)
 obtain ⟨u, p4, h4, a4, b4, c4⟩ := dr_of (l := [(⟨#[109, 97, 105, 110]⟩ : Str), (⟨#[97, 110, 110]⟩ : Str), (⟨#[98, 111, 98]⟩ : Str), (⟨#[99, 97, 116]⟩ : Str)]) (by simp) bs p1 hb (by omega) (by omega)
 simp only at h4
 unfold gf_bt9
 simp only [h0, Option.bind_some, h1, h4]
 exact ⟨_, _, _, rfl, ha, hc, c4⟩
theorem upL_snoc {p : Nat → Bool} : ∀ (n k : Nat), upL p (n + 1) k = upL p n k ++ (if p (k + n) = true then [((k + n : Nat) : Int)] else [])
 | 0, k => by simp [upL]
 | n + 1, k => by
  have ih := upL_snoc (p := p) n (k + 1)
  rw [show upL p (n + 1 + 1) k = if p k = true then (k : Int) :: upL p (n + 1) (k + 1) else upL p (n + 1) (k + 1) from rfl, ih]
  rw [show upL p (n + 1) k = if p k = true then (k : Int) :: upL p n (k + 1) else upL p n (k + 1) from rfl, show k + 1 + n = k + (n + 1) by omega]
  split <;> simp
theorem down_up {p : Nat → Bool} : ∀ n : Nat, (downF p n).reverse = upL p n 0
 | 0 => rfl
 | n + 1 => by
  rw [upL_snoc, ← down_up n]
  simp only [downF, Nat.zero_add]
  split <;> simp
theorem upL_filter {p : Nat → Bool} {P : Int → Bool} : ∀ (n k : Nat), (upL p n k).filter P = upL (fun i => p i && P (i : Int)) n k
 | 0, k => rfl
 | n + 1, k => by
  simp only [upL]
  rw [← upL_filter n (k + 1)]
  by_cases h : p k = true
  ·by_cases h2 : P (k : Int) = true <;> simp [h, h2]
  ·simp [h]
theorem lack_loop {a b : Repo} {n : Str} {l past : List Int} (hwa : wRepo a ≤ 1048576) (hwb : wRepo b ≤ 1048576) (ha : mRepo a = true) (hb : mRepo b = true) (hp : ∀ u ∈ past, ∃ k : Nat, u = (k : Int) ∧ k < b.commits.length) (hpl : past.length ≤ 1048576) : ∀ (i m j : Nat), i < m → i ≤ past.length → j ≤ l.length → l.drop j = ((past.take i).reverse).filter (fun u => decide (mSyncFind a.commits b.commits u.toNat < 0)) → l.length ≤ 1048576 → gl_bf9_1 past (n, a.commits, a.heads, b.commits, b.heads) l m (j : Int) ((i : Int) - 1) = some (.inr (l.length : Int))
 | _, 0, _, h, _, _, _, _ => by omega
 | 0, m + 1, j, h, hi, hj, hd, hll => by
  simp only [List.take_zero, List.reverse_nil, List.filter_nil, List.drop_eq_nil_iff] at hd
  have : j = l.length := by omega
  subst this
  unfold gl_bf9_1
  rw [if_neg (by simp)]
 | i + 1, m + 1, j, h, hi, hj, hd, hll => by
  obtain ⟨x, hx⟩ := getI (xs := past) (i := i) (by omega)
  obtain ⟨k, hk, hkl⟩ := hp x (List.mem_of_getElem? hx)
  subst hk
  have e1 : (((i + 1 : Nat) : Int) - 1) = (i : Int) := by omega
  have ew : IntKind.i64.wrap ((i : Int) - 1) = (i : Int) - 1 := wrap_id (by omega) (by omega)
  have hf := i_SyncFind (a := a) (b := b) (k := (k : Int)) hwa hwb
  rw [if_pos (by simp [ha, hb, hkl]), Int.toNat_natCast] at hf
  have ht : (past.take (i + 1)).reverse = (k : Int) :: (past.take i).reverse := by
   rw [List.take_add_one, hx]
   simp
  rw [ht] at hd
  unfold gl_bf9_1
  rw [e1, if_pos (by simp), idx_nat, hx, Option.bind_some]
  simp only [repo_eta]
  rw [hf, Option.bind_some, ew]
  by_cases hn : mSyncFind a.commits b.commits k < 0
  ·rw [List.filter_cons_of_pos (by simpa using hn)] at hd
   have hjl : j < l.length := by
    rcases Nat.lt_or_ge j l.length with h1 | h1
    ·exact h1
    ·rw [List.drop_eq_nil_of_le h1] at hd
     cases hd
   have hlj : l[j]? = some (k : Int) := drop_get hd
   have ewj : IntKind.i64.wrap ((j : Int) + 1) = ((j + 1 : Nat) : Int) := by rw [wrap_id (by omega) (by omega)]; omega
   rw [if_neg (by simpa using hn), if_neg (by simp; omega), idx_nat, hlj, Option.bind_some, if_neg (by simp), ewj]
   exact lack_loop hwa hwb ha hb hp hpl i m (j + 1) (by omega) (by omega) (by omega) (drop_next hd) hll
  ·rw [List.filter_cons_of_neg (by simpa using hn)] at hd
   rw [if_pos (by simp; omega)]
   exact lack_loop hwa hwb ha hb hp hpl i m j (by omega) (by omega) hj hd hll
theorem lack_self {a : Repo} {n : Str} : mSyncLack a a n = [] := lack_nil fun t _ _ ha _ j _ hj => by
 rw [find_at (repo_commits ha) (repo_hist ha) (mSame_refl (repo_hist ha) (j + 1) j (by omega) hj)]
 omega
theorem nm4_size {n : Str} (hn : n ∈ ([(⟨#[109, 97, 105, 110]⟩ : Str), (⟨#[97, 110, 110]⟩ : Str), (⟨#[98, 111, 98]⟩ : Str), (⟨#[99, 97, 116]⟩ : Str)] : List Str)) : n.size ≤ 7 := (by decide : ∀ y ∈ ([(⟨#[109, 97, 105, 110]⟩ : Str), (⟨#[97, 110, 110]⟩ : Str), (⟨#[98, 111, 98]⟩ : Str), (⟨#[99, 97, 116]⟩ : Str)] : List Str), y.size ≤ 7) n hn
theorem law_FnSyncLack (code : List UInt8) : gf_bf9 code = some true := by
 unfold gf_bf9
 by_cases hs : (code.length : Int) > 1048576
 ·rw [if_pos (by simpa using hs)]
 rw [if_neg (by simpa using hs)]
 obtain ⟨a, b, n, h, ha, hb, hn⟩ := dr_SyncLack code
 have hwa := bR_w ha
 have hwb := bR_w hb
 have hns := nm4_size hn
 have hw : wRepo a + wRepo b ≤ 1048576 := by omega
 have hll := mSyncLack_len (a := a) (b := b) (n := n)
 have hbl : b.commits.length ≤ 12 := hb.1.2
 have hal : a.commits.length ≤ 12 := ha.1.2
 rw [h, Option.bind_some, Option.bind_some]
 simp only [repo_eta]
 rw [i_SyncLack (by omega) (by omega), Option.bind_some, s_SyncLack (by omega) (by omega), Option.bind_some, if_neg (by simp), s_RepoOk (by omega), Option.bind_some]
 by_cases hra : mRepo a = true
 rotate_left
 ·rw [if_pos (by simpa using hra), show mSyncLack a b n = [] from by unfold mSyncLack; rw [if_neg hra]]
  rfl
 rw [if_neg (by simp [hra]), s_RepoOk (by omega), Option.bind_some]
 by_cases hrb : mRepo b = true
 rotate_left
 ·rw [if_pos (by simpa using hrb), lack_nil fun _ _ _ _ h => absurd h hrb]
  rfl
 rw [if_neg (by simp [hrb]), i_RepoAt' (by omega), Option.bind_some]
 rcases repoAt_cases b n with ⟨q1, _⟩ | ⟨k, t, hd, _, q1, q2, q3, q4, q5, q6⟩
 ·rw [q1, if_pos (by decide), show mSyncLack a b n = [] from by unfold mSyncLack; rw [if_pos hra, q1]; rfl]
  rfl
 have hin : inR b (t : Int) = true := by unfold inR; simp [hrb, q5]
 rw [q6, if_neg (by simp), Option.bind_some, i_RepoPast (by omega), if_pos hin, Option.bind_some, Int.toNat_natCast]
 have hpl : (mPast b.commits t).length ≤ b.commits.length := downF_len
 have el : mSyncLack a b n = ((mPast b.commits t).reverse).filter (fun u => decide (mSyncFind a.commits b.commits u.toNat < 0)) := by
  unfold mSyncLack mLack mPast
  rw [if_pos hra, q6, if_neg (by omega), Int.toNat_natCast, down_up, upL_filter]
  rfl
 have hlp := lack_loop (n := n) (a := a) (b := b) (l := mSyncLack a b n) (past := mPast b.commits t) (by omega) (by omega) hra hrb (fun u hu => by
  unfold mPast at hu
  obtain ⟨i, g1, g2, g3⟩ := downF_mem.1 hu
  exact ⟨i, g3, g1⟩) (by omega) (mPast b.commits t).length rounds 0 (by unfold rounds; omega) (Nat.le_refl _) (by omega) (by rw [List.drop_zero, List.take_of_length_le (Nat.le_refl _)]; exact el) (by omega)
 have ew : IntKind.i64.wrap (((mPast b.commits t).length : Int) - 1) = ((mPast b.commits t).length : Int) - 1 := wrap_id (by omega) (by omega)
 have hlp' : gl_bf9_1 (mPast b.commits t) (n, a.commits, a.heads, b.commits, b.heads) (mSyncLack a b n) rounds 0 (((mPast b.commits t).length : Int) - 1) = some (.inr ((mSyncLack a b n).length : Int)) := hlp
 rw [ew, hlp', Option.bind_some]
 simp only
 rw [i_SyncTake hw, Option.bind_some, if_pos (by simp), i_SyncLack (by omega) (by omega), Option.bind_some, lack_self, if_pos (by decide)]
 have ew2 : IntKind.i64.wrap ((a.commits.length : Int) + (mSyncLack a b n).length) = (a.commits.length : Int) + (mSyncLack a b n).length := wrap_id (by omega) (by omega)
 rw [ew2]
 rcases take_cases (n := n) hw with ⟨e0, _⟩ | ⟨_, _, _, e⟩ | ⟨t', p, cs, hT, e | ⟨_, _, ⟨_, _, e⟩ | ⟨i, u, z, e1, e2, e3, e4, e5, ⟨_, e⟩ | ⟨_, _, e⟩⟩⟩⟩
 ·exact absurd ⟨hra, hrb⟩ e0
 ·rw [e]; rfl
 ·rw [e]; rfl
 all_goals
  have hlk := hT.lack
  rw [e]
  simp [hlk]
end Go.Proofs.AM
