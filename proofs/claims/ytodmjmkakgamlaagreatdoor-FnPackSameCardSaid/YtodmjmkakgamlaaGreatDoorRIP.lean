/- Lemmas of the proof (RIP), on an abstract machine. Conditions: none. -/
import Derived.Test.YtodmjmkakgamlaaGreatDoorRID
import Derived.Test.YtodmjmkakgamlaaGreatDoorM2
import Derived.Test.YtodmjmkakgamlaaGreatDoorHT
import Derived.Lib.ItoaLen
import Derived.Test.YtodmjmkakgamlaaGreatDoorHV
set_option linter.unusedVariables false
set_option linter.unusedSimpArgs false
set_option maxRecDepth 10000
namespace Go.Proofs.AM
theorem s_WordOk {s : Str} (h : s.size ≤ 1048576) : gf_cr9 s = some (mWord s) := by
 unfold gf_cr9 mWord
 rw [if_pos (fits_small h), loopB (gl := gl_cr9_1) (p := fun (b : UInt8) _ => decide (97 ≤ b.toNat) && decide (b.toNat ≤ 122)) (xs := s.data.toList) (fun _ => rfl) (fun x l k _ => ?_) s.data.toList 0 rfl]
 ·have e1 : ((s.size : Int) ≥ 1) ↔ 1 ≤ s.size := by omega
  have e2 : ((s.size : Int) ≤ 6) ↔ s.size ≤ 6 := by omega
  cases allFrom (fun (b : UInt8) _ => decide (97 ≤ b.toNat) && decide (b.toNat ≤ 122)) s.data.toList 0
  ·rfl
  ·by_cases h1 : 1 ≤ s.size <;> simp [e1, e2, h1]
 ·have e1 : ((x.toNat : Int) < 97) ↔ ¬ 97 ≤ x.toNat := by omega
  have e2 : ((x.toNat : Int) > 122) ↔ ¬ x.toNat ≤ 122 := by omega
  simp only [gl_cr9_1, e1, e2]
  by_cases h1 : 97 ≤ x.toNat <;> by_cases h2 : x.toNat ≤ 122 <;> simp [h1, h2]
theorem i_WordOk {s : Str} (h : s.size ≤ 1048576) : gf_aw9 s = some (mWord s) := by
 unfold gf_aw9 mWord
 rw [if_pos (fits_small h), loopB (gl := gl_aw9_1) (p := fun (b : UInt8) _ => decide (97 ≤ b.toNat) && decide (b.toNat ≤ 122)) (xs := s.data.toList) (fun _ => rfl) (fun x l k _ => ?_) s.data.toList 0 rfl]
 ·have e1 : ((s.size : Int) ≥ 1) ↔ 1 ≤ s.size := by omega
  have e2 : ((s.size : Int) ≤ 6) ↔ s.size ≤ 6 := by omega
  cases allFrom (fun (b : UInt8) _ => decide (97 ≤ b.toNat) && decide (b.toNat ≤ 122)) s.data.toList 0
  ·rfl
  ·by_cases h1 : 1 ≤ s.size <;> simp [gf_bh9, e1, e2, h1]
 ·have e1 : ((x.toNat : Int) < 97) ↔ ¬ 97 ≤ x.toNat := by omega
  have e2 : ((x.toNat : Int) > 122) ↔ ¬ x.toNat ≤ 122 := by omega
  simp only [gl_aw9_1, e1, e2]
  by_cases h1 : 97 ≤ x.toNat <;> by_cases h2 : x.toNat ≤ 122 <;> simp [h1, h2]
theorem s_l1Num (n : Int) : gf_da9 n = some (mNum n) := by
 unfold gf_da9 mNum
 by_cases h : -1000 ≤ n <;> simp [h]
theorem i_within (n a b : Int) : gf_bh9 n a b = some (decide (a ≤ n) && decide (n ≤ b)) := by
 unfold gf_bh9
 by_cases h : a ≤ n <;> simp [h]
theorem s_l1Pts {xs : List Pt} (h : xs.length ≤ 1048576) : gf_dc9 xs = some (mPts xs && decide (xs.length ≤ 6)) := by
 unfold gf_dc9 mPts
 rw [if_pos (fits_small h), loopB (gl := gl_dc9_1 xs) (p := fun p k => mNum p.x && (mNum p.y && (decide (k = 0) || decide (xs[k - 1]? ≠ some p)))) (xs := xs) (fun _ => rfl) (fun x l k hd => ?_) xs 0 rfl]
 ·rw [show decide ((xs.length : Int) ≤ 6) = decide (xs.length ≤ 6) from decI]
  exact endB
 ·simp only [gl_dc9_1, s_l1Num, Option.bind_some, ptb, posI]
  rcases Nat.eq_zero_or_pos k with rfl | hk
  ·cases mNum x.x <;> cases mNum x.y <;> simp
  ·obtain ⟨y, hy⟩ := drop_prev hd hk
   have hl := drop_len hd
   have hw := wrap_pred hk (by omega)
   rw [hw, idx_nat, hy]
   have hk' : ¬ k = 0 := by omega
   by_cases e : x = y
   ·subst e
    cases mNum x.x <;> cases mNum x.y <;> simp [hk, hk', hy]
   ·have e' : ¬ y = x := fun h => e h.symm
    cases mNum x.x <;> cases mNum x.y <;> simp [hk, hk', hy, e, e']
theorem s_ShapeOk {x : Shape} (h : x.pts.length ≤ 1048576) : gf_cm9 x = some (mShape x) := by
 unfold gf_cm9 mShape
 rw [s_l1Pts h]
 simp only [Option.bind_some, ptb]
 have c1 : ((x.pts.length : Int) == 1) = decide (x.pts.length = 1) := by
  by_cases e : x.pts.length = 1 <;> simp [e] <;> omega
 have c2 : ((x.pts.length : Int) ≥ 2) ↔ 2 ≤ x.pts.length := by omega
 have c3 : ((x.pts.length : Int) ≥ 3) ↔ 3 ≤ x.pts.length := by omega
 cases mPts x.pts
 ·simp
 ·by_cases hl : x.pts.length ≤ 6
  ·by_cases k1 : x.kind = 1
   ·simp [k1, hl, c1]
   ·by_cases k2 : x.kind = 2
    ·simp [k2, hl, c2]
    ·by_cases k3 : x.kind = 3
     ·by_cases h3 : 3 ≤ x.pts.length
      ·obtain ⟨p, hp⟩ : ∃ p, x.pts[0]? = some p := ⟨x.pts[0], List.getElem?_eq_getElem (by omega)⟩
       obtain ⟨q, hq⟩ : ∃ p, x.pts[x.pts.length - 1]? = some p := ⟨x.pts[x.pts.length - 1], List.getElem?_eq_getElem (by omega)⟩
       have hw := wrap_pred (k := x.pts.length) (by omega) (by omega)
       have e0 : idx x.pts 0 = some p := by rw [← hp]; exact idx_nat (k := 0)
       have e1 : idx x.pts ((x.pts.length - 1 : Nat) : Int) = some q := by rw [← hq]; exact idx_nat
       rw [hw]
       simp [k3, hl, c3, h3, e0, e1, hp, hq]
      ·simp [k3, hl, c3, h3]
     ·simp [k1, k2, k3, hl]
  ·simp [hl]
theorem i_ptOk (p : Pt) : gf_bd9 p = some (mNum p.x && mNum p.y) := by
 unfold gf_bd9 mNum
 rw [i_within, i_within]
 simp only [Option.bind_some]
 cases (decide (-1000 ≤ p.x) && decide (p.x ≤ 1000)) <;> simp
theorem i_ShapeOk {x : Shape} (h : x.pts.length ≤ 1048576) : gf_ar9 x = some (mShape x) := by
 unfold gf_ar9 mShape
 have c1 : ((x.pts.length : Int) == 1) = decide (x.pts.length = 1) := by
  by_cases e : x.pts.length = 1 <;> simp [e] <;> omega
 have c2 : ((2 : Int) ≤ (x.pts.length : Int)) ↔ 2 ≤ x.pts.length := by omega
 have c3 : ((3 : Int) ≤ (x.pts.length : Int)) ↔ 3 ≤ x.pts.length := by omega
 have c6 : ((x.pts.length : Int) ≤ 6) ↔ x.pts.length ≤ 6 := by omega
 rw [if_pos (fits_small h), loopB (gl := gl_ar9_1 x) (p := fun p k => mNum p.x && (mNum p.y && (decide (k = 0) || decide (x.pts[k - 1]? ≠ some p)))) (xs := x.pts) (fun _ => rfl) (fun y l k hd => ?_) x.pts 0 rfl]
 ·show _ = some (mPts x.pts && _)
  have hm : allFrom (fun (p : Pt) k => mNum p.x && (mNum p.y && (decide (k = 0) || decide (x.pts[k - 1]? ≠ some p)))) x.pts 0 = mPts x.pts := rfl
  rw [hm]
  cases mPts x.pts
  ·rfl
  ·simp only [if_true, Option.bind_some, ptb, i_within]
   by_cases k1 : x.kind = 1
   ·by_cases e : x.pts.length = 1 <;> simp [k1, c1, e]
   ·by_cases k2 : x.kind = 2
    ·by_cases e : x.pts.length ≤ 6 <;> simp [k2, c2, c6, e]
    ·by_cases k3 : x.kind = 3
     ·by_cases h3 : 3 ≤ x.pts.length
      ·obtain ⟨p, hp⟩ : ∃ p, x.pts[0]? = some p := ⟨x.pts[0], List.getElem?_eq_getElem (by omega)⟩
       obtain ⟨q, hq⟩ : ∃ p, x.pts[x.pts.length - 1]? = some p := ⟨x.pts[x.pts.length - 1], List.getElem?_eq_getElem (by omega)⟩
       have hw := wrap_pred (k := x.pts.length) (by omega) (by omega)
       have e0 : idx x.pts 0 = some p := by rw [← hp]; exact idx_nat (k := 0)
       have e1 : idx x.pts ((x.pts.length - 1 : Nat) : Int) = some q := by rw [← hq]; exact idx_nat
       rw [hw]
       by_cases e : x.pts.length ≤ 6 <;> simp [k3, c3, c6, h3, e0, e1, hp, hq, e]
      ·simp [k3, c3, c6, h3]
     ·simp [k1, k2, k3]
 ·simp only [gl_ar9_1, i_ptOk, Option.bind_some, ptb, posI]
  rcases Nat.eq_zero_or_pos k with rfl | hk
  ·cases mNum y.x <;> cases mNum y.y <;> simp
  ·obtain ⟨z, hz⟩ := drop_prev hd hk
   have hl := drop_len hd
   have hw := wrap_pred hk (by omega)
   rw [hw, idx_nat, hz]
   have hk' : ¬ k = 0 := by omega
   by_cases e : z = y <;> cases mNum y.x <;> cases mNum y.y <;> simp [hk, hk', hz, e]
theorem s_l2Tags {ts : List Tag} (h : wL wTag ts ≤ 1048576) : gf_dn9 ts = some (mTags ts && decide (ts.length ≤ 4)) := by
 have hlen : ts.length ≤ 1048576 := by unfold wL at h; omega
 unfold gf_dn9 mTags
 rw [if_pos (fits_small hlen), loopB (gl := gl_dn9_1 ts) (p := fun t k => mWord t.key && (mWord t.val && (decide (k = 0) || mPrev Tag.key ts t k))) (xs := ts) (fun _ => rfl) (fun x l k hd => ?_) ts 0 rfl]
 ·rw [show decide ((ts.length : Int) ≤ 4) = decide (ts.length ≤ 4) from decI]
  exact endB
 ·have hx : x ∈ ts := List.mem_of_getElem? (drop_get hd)
  have hs := sum_mem (w := wTag) hx
  unfold wL at h
  have hk1 : x.key.size ≤ 1048576 := by have e0 : wTag x = x.key.size + (x.val.size + 0) := rfl; omega
  have hk2 : x.val.size ≤ 1048576 := by have e0 : wTag x = x.key.size + (x.val.size + 0) := rfl; omega
  simp only [gl_dn9_1, s_WordOk hk1, s_WordOk hk2, Option.bind_some, posI, slt_seq]
  rcases Nat.eq_zero_or_pos k with rfl | hk
  ·cases mWord x.key <;> cases mWord x.val <;> simp
  ·obtain ⟨z, hz⟩ := drop_prev hd hk
   have hl := drop_len hd
   have hw := wrap_pred hk (by omega)
   rw [hw, idx_nat, hz]
   have hk' : ¬ k = 0 := by omega
   cases e : slt z.key x.key <;> cases mWord x.key <;> cases mWord x.val <;> simp [hk, hk', hz, e, mPrev]
theorem s_FeatOk {f : Feat} (h : wFeat f ≤ 1048576) : gf_ce9 f = some (mFeat f) := by
 unfold wFeat wShape at h
 have h1 : f.id.size ≤ 1048576 := by omega
 have h2 : f.shape.pts.length ≤ 1048576 := by unfold wL at h; omega
 unfold gf_ce9 mFeat
 rw [s_WordOk h1, s_ShapeOk h2, s_l2Tags (by omega)]
 simp only [Option.bind_some]
 cases mWord f.id <;> cases mShape f.shape <;> simp
theorem i_FeatOk {f : Feat} (h : wFeat f ≤ 1048576) : gf_af9 f = some (mFeat f) := by
 unfold wFeat wShape at h
 have h1 : f.id.size ≤ 1048576 := by omega
 have h2 : f.shape.pts.length ≤ 1048576 := by unfold wL at h; omega
 have h3 : wL wTag f.tags ≤ 1048576 := by omega
 have hlen : f.tags.length ≤ 1048576 := by unfold wL at h3; omega
 unfold gf_af9 mFeat
 rw [if_pos (fits_small hlen), loopB (gl := gl_af9_1 f) (p := fun t k => mWord t.key && (mWord t.val && (decide (k = 0) || mPrev Tag.key f.tags t k))) (xs := f.tags) (fun _ => rfl) (fun x l k hd => ?_) f.tags 0 rfl]
 ·have hm : allFrom (fun (t : Tag) k => mWord t.key && (mWord t.val && (decide (k = 0) || mPrev Tag.key f.tags t k))) f.tags 0 = mTags f.tags := rfl
  rw [hm, i_WordOk h1, i_ShapeOk h2]
  rw [show decide ((f.tags.length : Int) ≤ 4) = decide (f.tags.length ≤ 4) from decI]
  cases mTags f.tags <;> cases mWord f.id <;> cases mShape f.shape <;> simp
 ·have hx : x ∈ f.tags := List.mem_of_getElem? (drop_get hd)
  have hs := sum_mem (w := wTag) hx
  unfold wL at h3
  have hk1 : x.key.size ≤ 1048576 := by have e0 : wTag x = x.key.size + (x.val.size + 0) := rfl; omega
  have hk2 : x.val.size ≤ 1048576 := by have e0 : wTag x = x.key.size + (x.val.size + 0) := rfl; omega
  simp only [gl_af9_1, i_WordOk hk1, i_WordOk hk2, Option.bind_some, posI]
  rcases Nat.eq_zero_or_pos k with rfl | hk
  ·cases mWord x.key <;> cases mWord x.val <;> simp
  ·obtain ⟨z, hz⟩ := drop_prev hd hk
   have hl := drop_len hd
   have hw := wrap_pred hk (by omega)
   rw [hw, idx_nat, hz]
   have hk' : ¬ k = 0 := by omega
   cases e : slt z.key x.key <;> cases mWord x.key <;> cases mWord x.val <;> simp [hk, hk', hz, e, mPrev]
theorem s_SheetOk {fs : List Feat} (h : wL wFeat fs ≤ 1048576) : gf_cp9 fs = some (mSheet fs) := by
 have hlen : fs.length ≤ 1048576 := by unfold wL at h; omega
 unfold gf_cp9 mSheet
 rw [if_pos (fits_small hlen), loopB (gl := gl_cp9_1 fs) (p := fun f k => mFeat f && (decide (k = 0) || mPrev Feat.id fs f k)) (xs := fs) (fun _ => rfl) (fun x l k hd => ?_) fs 0 rfl]
 ·rw [show decide ((fs.length : Int) ≤ 8) = decide (fs.length ≤ 8) from decI]
  exact endB
 ·have hx : x ∈ fs := List.mem_of_getElem? (drop_get hd)
  have hs := sum_mem (w := wFeat) hx
  unfold wL at h
  simp only [gl_cp9_1, s_FeatOk (f := x) (by omega), Option.bind_some, posI, slt_seq]
  rcases Nat.eq_zero_or_pos k with rfl | hk
  ·cases mFeat x <;> simp
  ·obtain ⟨z, hz⟩ := drop_prev hd hk
   have hl := drop_len hd
   have hw := wrap_pred hk (by omega)
   rw [hw, idx_nat, hz]
   have hk' : ¬ k = 0 := by omega
   cases e : slt z.id x.id <;> cases mFeat x <;> simp [hk, hk', hz, e, mPrev]
theorem i_SheetOk {fs : List Feat} (h : wL wFeat fs ≤ 1048576) : gf_au9 fs = some (mSheet fs) := by
 have hlen : fs.length ≤ 1048576 := by unfold wL at h; omega
 unfold gf_au9 mSheet
 rw [if_pos (fits_small hlen), loopB (gl := gl_au9_1 fs) (p := fun f k => mFeat f && (decide (k = 0) || mPrev Feat.id fs f k)) (xs := fs) (fun _ => rfl) (fun x l k hd => ?_) fs 0 rfl]
 ·rw [show decide ((fs.length : Int) ≤ 8) = decide (fs.length ≤ 8) from decI]
  exact endB
 ·have hx : x ∈ fs := List.mem_of_getElem? (drop_get hd)
  have hs := sum_mem (w := wFeat) hx
  unfold wL at h
  simp only [gl_au9_1, i_FeatOk (f := x) (by omega), Option.bind_some, posI, slt_seq]
  rcases Nat.eq_zero_or_pos k with rfl | hk
  ·cases mFeat x <;> simp
  ·obtain ⟨z, hz⟩ := drop_prev hd hk
   have hl := drop_len hd
   have hw := wrap_pred hk (by omega)
   rw [hw, idx_nat, hz]
   have hk' : ¬ k = 0 := by omega
   cases e : slt z.id x.id <;> cases mFeat x <;> simp [hk, hk', hz, e, mPrev]
theorem s_l1Same {a b : List Pt} (h : a.length ≤ 1048576) : gf_dd9 a b = some (decide (a = b)) := eqd_list (gl := gl_dd9_1) (ok := fun _ => True) (fun _ _ => rfl) (fun a x l k y _ hy => by
 simp only [gl_dd9_1, idx_nat, hy, Option.bind_some, ptb]
 by_cases e : x = y <;> simp [e]) (fun _ _ => rfl) h (fun _ _ => trivial)
theorem i_EqPt {a b : List Pt} (h : a.length ≤ 1048576) : gf_bq9 a b = some (decide (a = b)) := eqd_list (gl := gl_bq9_1) (ok := fun _ => True) (fun _ _ => rfl) (fun a x l k y _ hy => by
 simp only [gl_bq9_1, idx_nat, hy, Option.bind_some, ptb]
 by_cases e : x = y <;> simp [e]) (fun _ _ => rfl) h (fun _ _ => trivial)
theorem s_l2Same {a b : List Tag} (h : a.length ≤ 1048576) : gf_dm9 a b = some (decide (a = b)) := eqd_list (gl := gl_dm9_1) (ok := fun _ => True) (fun _ _ => rfl) (fun a x l k y _ hy => by
 simp only [gl_dm9_1, idx_nat, hy, Option.bind_some, tagb]
 by_cases e : x = y <;> simp [e]) (fun _ _ => rfl) h (fun _ _ => trivial)
theorem i_EqTag {a b : List Tag} (h : a.length ≤ 1048576) : gf_br9 a b = some (decide (a = b)) := eqd_list (gl := gl_br9_1) (ok := fun _ => True) (fun _ _ => rfl) (fun a x l k y _ hy => by
 simp only [gl_br9_1, idx_nat, hy, Option.bind_some, tagb]
 by_cases e : x = y <;> simp [e]) (fun _ _ => rfl) h (fun _ _ => trivial)
theorem s_l7Ints {a b : List Int} (h : a.length ≤ 1048576) : gf_ek9 a b = some (decide (a = b)) := eqd_list (gl := gl_ek9_1) (ok := fun _ => True) (fun _ _ => rfl) (fun a x l k y _ hy => by
 simp only [gl_ek9_1, idx_nat, hy, Option.bind_some]
 by_cases e : x = y <;> simp [e]) (fun _ _ => rfl) h (fun _ _ => trivial)
theorem i_EqInt {a b : List Int} (h : a.length ≤ 1048576) : gf_bs9 a b = some (decide (a = b)) := eqd_list (gl := gl_bs9_1) (ok := fun _ => True) (fun _ _ => rfl) (fun a x l k y _ hy => by
 simp only [gl_bs9_1, idx_nat, hy, Option.bind_some]
 by_cases e : x = y <;> simp [e]) (fun _ _ => rfl) h (fun _ _ => trivial)
theorem s_ShapeSame {a b : Shape} (h : a.pts.length ≤ 1048576) : gf_cn9 a b = some (decide (a = b)) := by
 unfold gf_cn9
 rw [s_l1Same h]
 obtain ⟨k, p⟩ := a; obtain ⟨k2, p2⟩ := b
 by_cases h1 : k = k2 <;> by_cases h2 : p = p2 <;> simp [h1, h2]
theorem s_FeatSame {a b : Feat} (h : wFeat a ≤ 1048576) : gf_cf9 a b = some (decide (a = b)) := by
 unfold wFeat wShape wL at h
 unfold gf_cf9
 rw [s_ShapeSame (by omega), s_l2Same (by omega), seq_dec]
 obtain ⟨i, s, t⟩ := a; obtain ⟨i2, s2, t2⟩ := b
 by_cases h1 : i = i2 <;> by_cases h2 : s = s2 <;> by_cases h3 : t = t2 <;> simp [h1, h2, h3]
theorem i_ShapeSame {a b : Shape} (h : a.pts.length ≤ 1048576) : gf_as9 a b = some (decide (a = b)) := by
 unfold gf_as9
 rw [i_EqPt h]
 obtain ⟨k, p⟩ := a; obtain ⟨k2, p2⟩ := b
 by_cases h1 : k = k2 <;> by_cases h2 : p = p2 <;> simp [h1, h2]
theorem i_FeatSame {a b : Feat} (h : wFeat a ≤ 1048576) : gf_ag9 a b = some (decide (a = b)) := by
 unfold wFeat wShape wL at h
 unfold gf_ag9
 rw [i_ShapeSame (by omega), i_EqTag (by omega), seq_dec]
 obtain ⟨i, s, t⟩ := a; obtain ⟨i2, s2, t2⟩ := b
 by_cases h1 : i = i2 <;> by_cases h2 : s = s2 <;> by_cases h3 : t = t2 <;> simp [h1, h2, h3]
theorem s_SheetSame {a b : List Feat} (h : wL wFeat a ≤ 1048576) : gf_cq9 a b = some (decide (a = b)) := eqd_list (gl := gl_cq9_1) (ok := fun x => wFeat x ≤ 1048576) (fun _ _ => rfl) (fun a x l k y hx hy => by
 simp only [gl_cq9_1, idx_nat, hy, Option.bind_some, s_FeatSame hx]
 by_cases e : x = y <;> simp [e]) (fun _ _ => rfl) (by unfold wL at h; omega) (fun x hx => by have := sum_mem (w := wFeat) hx; unfold wL at h; omega)
theorem i_EqFeat {a b : List Feat} (h : wL wFeat a ≤ 1048576) : gf_bo9 a b = some (decide (a = b)) := eqd_list (gl := gl_bo9_1) (ok := fun x => wFeat x ≤ 1048576) (fun _ _ => rfl) (fun a x l k y hx hy => by
 simp only [gl_bo9_1, idx_nat, hy, Option.bind_some, i_FeatSame hx]
 by_cases e : x = y <;> simp [e]) (fun _ _ => rfl) (by unfold wL at h; omega) (fun x hx => by have := sum_mem (w := wFeat) hx; unfold wL at h; omega)
theorem i_SheetSame {a b : List Feat} (h : wL wFeat a ≤ 1048576) : gf_av9 a b = some (decide (a = b)) := by
 unfold gf_av9
 rw [i_EqFeat h]
 rfl
theorem s_sameCommit {a b : Commit} (h : wCommit a ≤ 1048576) : gf_ep9 a b = some (decide (a = b)) := by
 unfold wCommit at h
 unfold gf_ep9
 rw [s_l7Ints (by unfold wL at h; omega), s_SheetSame (by omega), seq_dec]
 obtain ⟨i, s, t⟩ := a; obtain ⟨i2, s2, t2⟩ := b
 by_cases h1 : i = i2 <;> by_cases h2 : s = s2 <;> by_cases h3 : t = t2 <;> simp [h1, h2, h3]
theorem i_sameCommit {a b : Commit} (h : wCommit a ≤ 1048576) : gf_be9 a b = some (decide (a = b)) := by
 unfold wCommit at h
 unfold gf_be9
 rw [i_EqInt (by unfold wL at h; omega), i_SheetSame (by omega), seq_dec]
 obtain ⟨i, s, t⟩ := a; obtain ⟨i2, s2, t2⟩ := b
 by_cases h1 : i = i2 <;> by_cases h2 : s = s2 <;> by_cases h3 : t = t2 <;> simp [h1, h2, h3]
theorem s_l7Find {r : Repo} {c : Commit} (h : wL wCommit r.commits ≤ 1048576) : gf_eh9 r c = some (mFind r.commits c) := by
 unfold gf_eh9 mFind
 rw [if_pos (fits_small (by unfold wL at h; omega))]
 exact loopF (gl := gl_eh9_1 c) (ok := fun x => wCommit x ≤ 1048576) (fun _ => rfl) (fun x l k hx => by simp only [gl_eh9_1, s_sameCommit hx, Option.bind_some]) _ 0 fun x hx => by have := sum_mem (w := wCommit) hx; unfold wL at h; omega
theorem i_Repo_commit {r : Repo} {c : Commit} (h : wL wCommit r.commits ≤ 1048576) : gf_am9 r c = some (mFind r.commits c) := by
 have key : gf_bu9 r.commits c = some (mFind r.commits c) := by
  unfold gf_bu9 mFind
  rw [if_pos (fits_small (by unfold wL at h; omega))]
  exact loopF (gl := gl_bu9_1 c) (ok := fun x => wCommit x ≤ 1048576) (fun _ => rfl) (fun x l k hx => by simp only [gl_bu9_1, gf_an9, i_sameCommit hx, Option.bind_some]) _ 0 fun x hx => by have := sum_mem (w := wCommit) hx; unfold wL at h; omega
 unfold gf_am9
 rw [key]
 rfl
theorem s_l7Head {r : Repo} {n : Str} (h : r.heads.length ≤ 1048576) : gf_ej9 r n = some (mHead r.heads n) := by
 unfold gf_ej9 mHead
 rw [if_pos (fits_small h)]
 exact loopF (gl := gl_ej9_1 n) (ok := fun _ => True) (fun _ => rfl) (fun x l k _ => by simp only [gl_ej9_1, seq_dec]) _ 0 fun _ _ => trivial
theorem i_Repo_head {r : Repo} {n : Str} (h : r.heads.length ≤ 1048576) : gf_ao9 r n = some (mHead r.heads n) := by
 have key : gf_by9 r.heads n = some (mHead r.heads n) := by
  unfold gf_by9 mHead
  rw [if_pos (fits_small h)]
  exact loopF (gl := gl_by9_1 n) (ok := fun _ => True) (fun _ => rfl) (fun x l k _ => by simp only [gl_by9_1, gf_ap9, seq_dec, Option.bind_some]) _ 0 fun _ _ => trivial
 unfold gf_ao9
 rw [key]
 rfl
theorem s_l7Up {up : List Int} {k : Nat} (h : up.length ≤ 1048576) : gf_eq9 up (k : Int) = some (mUp up k) := by
 unfold gf_eq9 mUp
 rw [if_pos (fits_small h), loopB (gl := gl_eq9_1 (k : Int)) (p := fun (x : Int) _ => decide (0 ≤ x) && decide (x < (k : Int))) (xs := up) (fun _ => rfl) (fun x l j _ => ?_) up 0 rfl]
 ·generalize allFrom (fun (x : Int) _ => decide (0 ≤ x) && decide (x < (k : Int))) up 0 = A
  cases A
  ·rfl
  ·have e1 : decide ((k : Int) > 0) = decide (0 < k) := posI
   match up with
   | [] => cases e : decide (0 < k) <;> simp [e1, e]
   | [a] => cases e : decide (0 < k) <;> simp [e1, e]
   | [a, b] =>
    have i0 : idx [a, b] 0 = some a := rfl
    have i1 : idx [a, b] 1 = some b := rfl
    by_cases e2 : a = b
    ·subst e2
     cases e : decide (0 < k) <;> simp [e1, e, i0, i1]
    ·cases e : decide (0 < k) <;> simp [e1, e, i0, i1, e2]
   | a :: b :: c :: l =>
    have e2 : ¬ ((l.length : Int) + 1 + 1 + 1 ≤ 2) := by omega
    simp [e2]
 ·have e1 : (x ≥ (k : Int)) ↔ ¬ x < (k : Int) := by omega
  have e2 : (x < 0) ↔ ¬ 0 ≤ x := by omega
  simp only [gl_eq9_1, e1, e2]
  by_cases h1 : 0 ≤ x <;> by_cases h2 : x < (k : Int) <;> simp [h1, h2]
theorem s_RepoOk {r : Repo} (h : wRepo r ≤ 1048576) : gf_cl9 r = some (mRepo r) := by
 unfold wRepo at h
 have hc : wL wCommit r.commits ≤ 1048576 := by omega
 have hh : wL wHead r.heads ≤ 1048576 := by omega
 have hcl : r.commits.length ≤ 1048576 := by unfold wL at hc; omega
 have hhl : r.heads.length ≤ 1048576 := by unfold wL at hh; omega
 have c1 : ((r.commits.length : Int) < 1) ↔ ¬ 1 ≤ r.commits.length := by omega
 have c2 : ((r.commits.length : Int) > 14) ↔ ¬ r.commits.length ≤ 14 := by omega
 have c3 : ((r.heads.length : Int) < 1) ↔ ¬ 1 ≤ r.heads.length := by omega
 have c4 : ((r.heads.length : Int) > 4) ↔ ¬ r.heads.length ≤ 4 := by omega
 have k1 : gl_cl9_1 r r.commits 0 = some (if mCommits r.commits = true then .inr () else .inl false) := by
  refine loopB (gl := gl_cl9_1 r) (p := fun c k => mUp c.up k && (mSheet c.sheet && (mWord c.note && decide (mFind r.commits c = (k : Int))))) (xs := r.commits) (fun _ => rfl) (fun x l k hd => ?_) r.commits 0 rfl
  have hx : x ∈ r.commits := List.mem_of_getElem? (drop_get hd)
  have hs := sum_mem (w := wCommit) hx
  have e0 : wCommit x = wL w0 x.up + (wL wFeat x.sheet + (x.note.size + 0)) := rfl
  have hs' : wCommit x ≤ 1048576 := by unfold wL at hc; omega
  have hu : x.up.length ≤ 1048576 := by have : wL w0 x.up = x.up.length + sumW w0 x.up := rfl; omega
  simp only [gl_cl9_1, s_l7Up hu, s_SheetOk (fs := x.sheet) (by omega), s_WordOk (s := x.note) (by omega), s_l7Find hc, Option.bind_some]
  by_cases e : mFind r.commits x = (k : Int) <;> cases mUp x.up k <;> cases mSheet x.sheet <;> cases mWord x.note <;> simp [e]
 have k2 : gl_cl9_2 r r.heads 0 = some (if mHeads r.commits.length r.heads = true then .inr () else .inl false) := by
  refine loopB (gl := gl_cl9_2 r) (p := fun h k => mWord h.name && (decide (mHead r.heads h.name = (k : Int)) && (decide (0 ≤ h.at_) && decide (h.at_ < (r.commits.length : Int))))) (xs := r.heads) (fun _ => rfl) (fun x l k hd => ?_) r.heads 0 rfl
  have hx : x ∈ r.heads := List.mem_of_getElem? (drop_get hd)
  have hs := sum_mem (w := wHead) hx
  have e0 : wHead x = x.name.size + 0 := rfl
  have hs' : x.name.size ≤ 1048576 := by unfold wL at hh; omega
  have d1 : (x.at_ < 0) ↔ ¬ 0 ≤ x.at_ := by omega
  have d2 : (x.at_ ≥ (r.commits.length : Int)) ↔ ¬ x.at_ < (r.commits.length : Int) := by omega
  simp only [gl_cl9_2, s_WordOk hs', s_l7Head hhl, Option.bind_some, d1, d2]
  by_cases e : mHead r.heads x.name = (k : Int) <;> by_cases e1 : 0 ≤ x.at_ <;> by_cases e2 : x.at_ < (r.commits.length : Int) <;> cases mWord x.name <;> simp [e, e1, e2]
 unfold gf_cl9 mRepo
 rw [k1, k2, if_pos (fits_small hcl), if_pos (fits_small hhl)]
 simp only [c1, c2, c3, c4]
 by_cases h1 : 1 ≤ r.commits.length <;> by_cases h2 : r.commits.length ≤ 14 <;> by_cases h3 : 1 ≤ r.heads.length <;> by_cases h4 : r.heads.length ≤ 4 <;> cases mCommits r.commits <;> cases mHeads r.commits.length r.heads <;> simp [h1, h2, h3, h4]
theorem i_version {r : Repo} {k : Int} (h : r.commits.length ≤ 1048576) : gf_aq9 r k = some (decide (0 ≤ k) && decide (k < (r.commits.length : Int))) := by
 unfold gf_aq9
 rw [wrap_id (by omega) (by omega), i_within]
 have e : (k ≤ (r.commits.length : Int) - 1) ↔ k < (r.commits.length : Int) := by omega
 simp [e]
theorem i_Contains0 (x : Int) : gf_bk9 [] x = some false := rfl
theorem i_Contains1 (a x : Int) : gf_bk9 [a] x = some (decide (x = a)) := by
 have hf : fits 1 = true := fits_small (by omega)
 by_cases e : x = a
 ·subst e
  simp [gf_bk9, gf_bz9, hf, gl_bz9_1]
 ·simp [gf_bk9, gf_bz9, hf, gl_bz9_1, e]
theorem i_up5 {c : Commit} {k : Nat} (hk : k ≤ 1048576) (h : c.up.length ≤ 2) : gl_ak9_5 k c c.up 0 = some (if (allFrom (fun (x : Int) _ => decide (0 ≤ x) && decide (x < (k : Int))) c.up 0 && decide (c.up[0]? = none ∨ c.up[0]? ≠ c.up[1]?)) = true then .inr () else .inl false) := by
 have hw : IntKind.i64.wrap ((k : Int) - 1) = (k : Int) - 1 := wrap_id (by omega) (by omega)
 have hi : ∀ x : Int, (x ≤ (k : Int) - 1) ↔ x < (k : Int) := fun x => by omega
 obtain ⟨up, sh, nt⟩ := c
 match up, h with
 | [], _ => rfl
 | [a], _ =>
  have s0 : slc [a] 0 ((0 : Nat) : Int) = some [] := by simp [slc]
  simp only [gl_ak9_5, i_within, hw, hi, Option.bind_some, s0, i_Contains0, allFrom]
  by_cases h1 : 0 ≤ a <;> by_cases h2 : a < (k : Int) <;> simp [h1, h2]
 | [a, b], _ =>
  have s0 : slc [a, b] 0 ((0 : Nat) : Int) = some [] := by simp [slc]
  have s1 : slc [a, b] 0 ((0 + 1 : Nat) : Int) = some [a] := by simp [slc]
  simp only [gl_ak9_5, i_within, hw, hi, Option.bind_some, s0, s1, i_Contains0, i_Contains1, allFrom]
  by_cases e : b = a
  ·subst e
   by_cases h1 : 0 ≤ b <;> by_cases h2 : b < (k : Int) <;> simp [h1, h2]
  ·have e' : ¬ a = b := fun h => e h.symm
   by_cases h1 : 0 ≤ a <;> by_cases h2 : a < (k : Int) <;> by_cases h3 : 0 ≤ b <;> by_cases h4 : b < (k : Int) <;> simp [h1, h2, h3, h4, e, e']
 | _ :: _ :: _ :: _, h => simp at h
theorem i_RepoOk {r : Repo} (h : wRepo r ≤ 1048576) : gf_ak9 r = some (mRepo r) := by
 unfold wRepo at h
 have hc : wL wCommit r.commits ≤ 1048576 := by omega
 have hh : wL wHead r.heads ≤ 1048576 := by omega
 have hcl : r.commits.length ≤ 1048576 := by unfold wL at hc; omega
 have hhl : r.heads.length ≤ 1048576 := by unfold wL at hh; omega
 have c1 : ((1 : Int) ≤ r.commits.length) ↔ 1 ≤ r.commits.length := by omega
 have c2 : ((r.commits.length : Int) ≤ 14) ↔ r.commits.length ≤ 14 := by omega
 have c3 : ((1 : Int) ≤ r.heads.length) ↔ 1 ≤ r.heads.length := by omega
 have c4 : ((r.heads.length : Int) ≤ 4) ↔ r.heads.length ≤ 4 := by omega
 have k1 : gl_ak9_4 r r.commits 0 = some (if mCommits r.commits = true then .inr () else .inl false) := by
  refine loopB (gl := gl_ak9_4 r) (p := fun c k => mUp c.up k && (mSheet c.sheet && (mWord c.note && decide (mFind r.commits c = (k : Int))))) (xs := r.commits) (fun _ => rfl) (fun x l k hd => ?_) r.commits 0 rfl
  have hx : x ∈ r.commits := List.mem_of_getElem? (drop_get hd)
  have hkl := drop_len hd
  have hs := sum_mem (w := wCommit) hx
  have e0 : wCommit x = wL w0 x.up + (wL wFeat x.sheet + (x.note.size + 0)) := rfl
  have hs' : wCommit x ≤ 1048576 := by unfold wL at hc; omega
  have hu : x.up.length ≤ 1048576 := by have : wL w0 x.up = x.up.length + sumW w0 x.up := rfl; omega
  have d1 : (((k : Int) == 0) == ((x.up.length : Int) == 0)) = (decide (0 < x.up.length) == decide (0 < k)) := by
   rw [zI, zI, posD, posD]
   cases decide (k = 0) <;> cases decide (x.up.length = 0) <;> rfl
  have d2 : ((x.up.length : Int) > 2) ↔ ¬ x.up.length ≤ 2 := by omega
  obtain ⟨B, hB⟩ : ∃ B, (decide (0 < x.up.length) == decide (0 < k)) = B := ⟨_, rfl⟩
  rw [hB] at d1
  simp only [gl_ak9_4, i_SheetOk (fs := x.sheet) (by omega), i_WordOk (s := x.note) (by omega), i_Repo_commit hc, Option.bind_some, d1, d2, mUp, hB]
  clear d1 hB
  by_cases b : x.up.length ≤ 2
  ·rw [i_up5 (by omega) b, if_pos (fits_small hu)]
   obtain ⟨D, hD⟩ : ∃ D, (decide (x.up[0]? = none ∨ x.up[0]? ≠ x.up[1]?)) = D := ⟨_, rfl⟩
   rw [hD]
   clear hD
   by_cases e : mFind r.commits x = (k : Int) <;> cases B <;> cases mSheet x.sheet <;> cases mWord x.note <;> cases allFrom (fun (x : Int) _ => decide (0 ≤ x) && decide (x < (k : Int))) x.up 0 <;> cases D <;> simp [e, b]
  ·by_cases e : mFind r.commits x = (k : Int) <;> cases B <;> cases mSheet x.sheet <;> cases mWord x.note <;> simp [e, b]
 have k2 : gl_ak9_6 r r.heads 0 = some (if mHeads r.commits.length r.heads = true then .inr () else .inl false) := by
  refine loopB (gl := gl_ak9_6 r) (p := fun h k => mWord h.name && (decide (mHead r.heads h.name = (k : Int)) && (decide (0 ≤ h.at_) && decide (h.at_ < (r.commits.length : Int))))) (xs := r.heads) (fun _ => rfl) (fun x l k hd => ?_) r.heads 0 rfl
  have hx : x ∈ r.heads := List.mem_of_getElem? (drop_get hd)
  have hs := sum_mem (w := wHead) hx
  have e0 : wHead x = x.name.size + 0 := rfl
  have hs' : x.name.size ≤ 1048576 := by unfold wL at hh; omega
  simp only [gl_ak9_6, i_WordOk hs', i_Repo_head hhl, i_version hcl, Option.bind_some]
  by_cases e : mHead r.heads x.name = (k : Int) <;> by_cases e1 : 0 ≤ x.at_ <;> by_cases e2 : x.at_ < (r.commits.length : Int) <;> cases mWord x.name <;> simp [e, e1, e2]
 unfold gf_ak9 mRepo
 rw [k1, k2, if_pos (fits_small hcl), if_pos (fits_small hhl), i_within, i_within]
 simp only [c1, c2, c3, c4, Option.bind_some]
 by_cases h1 : 1 ≤ r.commits.length <;> by_cases h2 : r.commits.length ≤ 14 <;> by_cases h3 : 1 ≤ r.heads.length <;> by_cases h4 : r.heads.length ≤ 4 <;> cases mCommits r.commits <;> cases mHeads r.commits.length r.heads <;> simp [h1, h2, h3, h4]
def c1 {α : Type} (_ : α) : Nat := 1
def c2 {α : Type} (_ : α) : Nat := 2
theorem fst_cases {α : Type} {p : α → Bool} : ∀ {l : List α} {k : Nat}, fstFrom p l k = -1 ∨ ∃ j x, fstFrom p l k = ((k + j : Nat) : Int) ∧ l[j]? = some x ∧ p x = true
 | [], k => .inl rfl
 | x :: l, k => by
  simp only [fstFrom]
  by_cases h : p x = true
  ·rw [if_pos h]
   exact .inr ⟨0, x, rfl, rfl, h⟩
  ·rw [if_neg h]
   rcases fst_cases (p := p) (l := l) (k := k + 1) with h1 | ⟨j, y, h1, h2, h3⟩
   ·exact .inl h1
   ·exact .inr ⟨j + 1, y, by rw [h1]; congr 1; omega, by simpa using h2, h3⟩
theorem head_at {r : Repo} (hr : mRepo r = true) (n : Str) : mHead r.heads n = -1 ∨ ∃ (k a : Nat) (h : Head), mHead r.heads n = (k : Int) ∧ r.heads[k]? = some h ∧ h.name = n ∧ h.at_ = (a : Int) ∧ a < r.commits.length := by
 rcases fst_cases (p := fun x : Head => decide (x.name = n)) (l := r.heads) (k := 0) with h | ⟨j, x, h1, h2, h3⟩
 ·exact .inl h
 ·refine .inr ⟨j, x.at_.toNat, x, by unfold mHead; rw [h1]; simp, h2, by simpa using h3, ?_⟩
  unfold mRepo at hr
  simp only [Bool.and_eq_true] at hr
  have := allFrom_get hr.2.2.2.2.2 j x h2
  simp only [Bool.and_eq_true, decide_eq_true_eq] at this
  omega
theorem cpa_loop {α : Type} {g : α → Option α} {gl : List α → Nat → List α → Option (List α)} (h0 : ∀ k v, gl [] k v = some v) (h1 : ∀ x l k v, gl (x :: l) k v = (g x).bind fun y => if fits (v ++ [y]).length = true then gl l (k + 1) (v ++ [y]) else none) : ∀ (l : List α) (k : Nat) (v : List α), (∀ x ∈ l, g x = some x) → v.length + l.length ≤ 1048576 → gl l k v = some (v ++ l)
 | [], k, v, _, _ => by rw [h0]; simp
 | x :: l, k, v, hx, hl => by
  simp only [List.length_cons] at hl
  rw [h1, hx x (by simp)]
  simp only [Option.bind_some]
  rw [if_pos (fits_small (by simp; omega)), cpa_loop h0 h1 l (k + 1) _ (fun y hy => hx y (by simp [hy])) (by simp; omega)]
  simp
theorem s_l2Copy {f : Feat} (h : wFeat f ≤ 1048576) : gf_dh9 f = some f := by
 unfold wFeat wShape wL at h
 unfold gf_dh9 gf_cy9
 rw [if_pos (fits_small (by simp; omega))]
 simp only [Option.bind_some]
 rw [if_pos (fits_small (by simp; omega))]
 rfl
theorem s_l3Copy {fs : List Feat} (h : wL wFeat fs ≤ 1048576) : gf_dq9 fs = some fs := by
 have hl : fs.length ≤ 1048576 := by unfold wL at h; omega
 unfold gf_dq9
 rw [if_pos (fits_small hl), cpa_loop (gl := gl_dq9_1) (fun _ _ => rfl) (fun _ _ _ _ => rfl) fs 0 [] (fun x hx => s_l2Copy (by have := sum_mem (w := wFeat) hx; unfold wL at h; omega)) (by simpa using hl)]
 rfl
theorem s_l7One {c : Commit} (h : wCommit c ≤ 1048576) : gf_en9 c = some c := by
 unfold wCommit at h
 unfold gf_en9
 rw [if_pos (fits_small (by unfold wL at h; simp; omega)), s_l3Copy (by omega)]
 rfl
theorem s_l7Copy {r : Repo} (h : wRepo r ≤ 1048576) : gf_eg9 r = some r := by
 unfold wRepo at h
 have hl : r.commits.length ≤ 1048576 := by unfold wL at h; omega
 unfold gf_eg9
 rw [if_pos (fits_small (by unfold wL at h; simp; omega)), if_pos (fits_small hl), cpa_loop (gl := gl_eg9_1) (fun _ _ => rfl) (fun _ _ _ _ => rfl) r.commits 0 [] (fun x hx => s_l7One (by have := sum_mem (w := wCommit) hx; unfold wL at h; omega)) (by simpa using hl)]
 rfl
theorem i_cloneFeat {f : Feat} (h : wFeat f ≤ 1048576) : gf_ax9 f = some f := by
 unfold wFeat wShape wL at h
 unfold gf_ax9 gf_ay9
 rw [if_pos (fits_small (by simp; omega))]
 simp only [Option.bind_some]
 rw [if_pos (fits_small (by simp; omega))]
 rfl
def rNil : Repo := ⟨[], []⟩
def mBranch (r : Repo) (n f : Str) : Repo × Int :=
 if (mRepo r && mWord n) = true then
  (if mHead r.heads f < 0 then (r, 1) else if 0 ≤ mHead r.heads n ∨ r.heads.length = 4 then (r, 2) else
   match idx r.heads (mHead r.heads f) with
   | some h => (⟨r.commits, r.heads ++ [⟨n, h.at_⟩]⟩, 0)
   | none => (rNil, 9))
 else (rNil, 4)
theorem s_RepoBranch {r : Repo} {n f : Str} (hw : wRepo r ≤ 1048576) (hn : n.size ≤ 1048576) : gf_cj9 r n f = some (mBranch r n f) := by
 have hh : r.heads.length ≤ 1048576 := by unfold wRepo wL at hw; omega
 unfold gf_cj9 mBranch
 rw [s_RepoOk hw, s_WordOk hn, s_l7Copy hw, s_l7Head hh, s_l7Head hh]
 simp only [Option.bind_some]
 by_cases hr : mRepo r = true
 ·by_cases hx : mWord n = true
  ·have h4 : r.heads.length ≤ 4 := (repo_len hr).2.2
   rw [hr, hx]
   simp only [Bool.not_true, Bool.and_self, if_true]
   rw [if_neg (by decide), if_neg (by decide)]
   rcases head_at hr f with h | ⟨k, a, h, h1, h2, _⟩
   ·rw [h]
    rfl
   ·rw [h1]
    have hk : ¬ ((k : Int) < 0) := by omega
    by_cases h5 : 0 ≤ mHead r.heads n
    ·simp [hk, h5]
    ·by_cases h6 : r.heads.length = 4
     ·simp [hk, h5, h6]
     ·have h6' : ¬ ((r.heads.length : Int) = 4) := by omega
      have h6'' : ¬ ((4 : Int) ≤ (r.heads.length : Int)) := by omega
      have hfit : fits (r.heads.length + 1) = true := fits_small (by omega)
      simp [hk, h5, h6, h6', h6'', idx_nat, h2, hfit]
  ·simp only [Bool.not_eq_true] at hx
   rw [hr, hx]
   rfl
 ·simp only [Bool.not_eq_true] at hr
  rw [hr]
  rfl
def cnt (m : List Bool) : Nat → Nat
 | 0 => 0
 | k + 1 => cnt m k + (if trueAt m k = true then 1 else 0)
def newUp (m : List Bool) (c : Commit) : Commit := ⟨c.up.map fun u => (cnt m u.toNat : Int), c.sheet, c.note⟩
def sweepC (m : List Bool) : List Commit → Nat → List Commit
 | [], _ => []
 | x :: l, k => if trueAt m k = true then newUp m x :: sweepC m l (k + 1) else sweepC m l (k + 1)
def setAtH (hs : List Head) (k : Nat) (h : Head) (v : Int) : List Head := hs.set k ⟨h.name, v⟩
def mAdd (r : Repo) (n : Str) (s : List Feat) (t : Str) : Repo × Int :=
 if (mRepo r && (mSheet s && mWord t)) = true then
  (match idx r.heads (mHead r.heads n) with
  | none => (r, 1)
  | some h => match idx r.commits h.at_ with
   | none => (r, 1)
   | some x => if x.sheet = s then (r, 3) else
    if mFind r.commits ⟨[h.at_], s, t⟩ < 0 then
     (if r.commits.length = 14 then (r, 2) else (⟨r.commits ++ [⟨[h.at_], s, t⟩], setAtH r.heads (mHead r.heads n).toNat h r.commits.length⟩, 0))
    else (⟨r.commits, setAtH r.heads (mHead r.heads n).toNat h (mFind r.commits ⟨[h.at_], s, t⟩)⟩, 0))
 else (⟨[], []⟩, 4)
theorem sumW_set {α : Type} {w : α → Nat} : ∀ (xs : List α) (k : Nat) (x y : α), xs[k]? = some x → w y ≤ w x → sumW w (xs.set k y) ≤ sumW w xs
 | [], k, x, y, h, _ => by simp at h
 | z :: xs, 0, x, y, h, hw => by
  simp only [List.getElem?_cons_zero, Option.some.injEq] at h
  subst h
  simp only [List.set_cons_zero, sumW]
  omega
 | z :: xs, k + 1, x, y, h, hw => by
  have := sumW_set xs k x y (by simpa using h) hw
  simp only [List.set_cons_succ, sumW]
  omega
theorem setAtH_w {hs : List Head} {n : Str} {h : Head} {v : Int} (hh : idx hs (mHead hs n) = some h) : wL wHead (setAtH hs (mHead hs n).toNat h v) ≤ wL wHead hs := by
 have h1 := (idx_get hh).2
 have := sumW_set (w := wHead) hs _ h ⟨h.name, v⟩ h1 (Nat.le_refl _)
 unfold wL setAtH
 simp only [List.length_set]
 omega
theorem sumW_app1 {α : Type} {w : α → Nat} : ∀ (a : List α) (x : α), sumW w (a ++ [x]) = sumW w a + w x
 | [], x => by simp [sumW]
 | y :: a, x => by simp only [List.cons_append, sumW, sumW_app1 a x]; omega
theorem mAdd_w {r : Repo} {n t : Str} {s : List Feat} : wRepo (mAdd r n s t).1 ≤ wRepo r + (2 + (wL wFeat s + t.size)) := by
 unfold mAdd
 split
 ·split
  ·simp only; omega
  ·rename_i h hh
   split
   ·simp only; omega
   ·split
    ·simp only; omega
    ·split
     ·split
      ·simp only; omega
      ·have := setAtH_w (v := (r.commits.length : Int)) hh
       simp only [wRepo]
       have e : wL wCommit (r.commits ++ [⟨[h.at_], s, t⟩]) = wL wCommit r.commits + (1 + wCommit ⟨[h.at_], s, t⟩) := by
        unfold wL
        rw [sumW_app1]
        simp
        omega
       have e2 : wCommit ⟨[h.at_], s, t⟩ = 1 + (wL wFeat s + (t.size + 0)) := by unfold wCommit; simp [wL, sumW, w0]
       omega
     ·have := setAtH_w (v := mFind r.commits ⟨[h.at_], s, t⟩) hh
      simp only [wRepo]
      omega
 ·have : wRepo ⟨[], []⟩ = 0 := rfl
  simp only [this]
  omega
theorem ixor_nn {a b : Int} (h1 : 0 ≤ a) (h2 : a < 4294967296) (h3 : 0 ≤ b) (h4 : b < 4294967296) : 0 ≤ ixor a b := by
 unfold ixor
 have e : ((BitVec.ofInt 64 a ^^^ BitVec.ofInt 64 b).toNat) < 2 ^ 32 := by
  rw [BitVec.toNat_xor, BitVec.toNat_ofInt, BitVec.toNat_ofInt]
  apply Nat.xor_lt_two_pow
  ·have : (a % ((2 ^ 64 : Nat) : Int)) = a := Int.emod_eq_of_lt h1 (by omega)
   rw [this]
   omega
  ·have : (b % ((2 ^ 64 : Nat) : Int)) = b := Int.emod_eq_of_lt h3 (by omega)
   rw [this]
   omega
 rw [wrap_id (by omega) (by omega)]
 omega
theorem imod_ok {a b : Int} (h : 0 < b) (ha : 0 ≤ a) : ∃ v, imod a b = some v ∧ 0 ≤ v ∧ v < b := by
 unfold imod
 rw [if_pos (by omega)]
 exact ⟨_, rfl, Int.tmod_nonneg b ha, Int.tmod_lt_of_pos a h⟩
theorem getU {b : List UInt8} {i : Int} (h0 : 0 ≤ i) (h : i < b.length) : ∃ x : UInt8, idx b i = some x := by
 rw [idx_int h0]
 exact getI (by omega)
theorem p_pick {b : List UInt8} {p n : Int} (hb : b.length ≤ 2000) (h0 : 0 ≤ p) (hp : p ≤ 1000000) : ∃ v, gf_cw9 ⟨b, p⟩ n = some (v, p + 1) ∧ 0 ≤ v ∧ (1 ≤ n → v < n) := by
 unfold gf_cw9
 simp only
 have e1 : IntKind.i64.wrap (p + 1) = p + 1 := wrap_id (by omega) (by omega)
 have e2 : IntKind.i64.wrap (p + 1 - 1) = p := by rw [wrap_id (by omega) (by omega)]; omega
 rw [e1, e2]
 by_cases hn : n < 1
 ·rw [if_pos (by simpa using hn)]
  exact ⟨0, rfl, by omega, by omega⟩
 rw [if_neg (by simpa using hn)]
 by_cases hz : b.length = 0
 ·rw [if_pos (by simp [hz])]
  exact ⟨0, rfl, by omega, by omega⟩
 rw [if_neg (by simpa using hz)]
 have hx8 : ∀ x : UInt8, (x.toNat : Int) < 256 := fun x => by have := x.toNat_lt; omega
 by_cases hl : p < b.length
 ·rw [if_pos (by simpa using hl)]
  obtain ⟨x, hx⟩ := getU h0 hl
  have := hx8 x
  rw [hx, Option.bind_some, wrap_id (by omega) (by omega)]
  obtain ⟨v, hv, h1, h2⟩ := imod_ok (a := (x.toNat : Int)) (b := n) (by omega) (by omega)
  rw [hv]
  exact ⟨v, rfl, h1, fun _ => h2⟩
 rw [if_neg (by simpa using hl)]
 obtain ⟨i, hi, i1, i2⟩ := imod_ok (a := p) (b := b.length) (by omega) h0
 obtain ⟨x, hx⟩ := getU i1 i2
 have e3 : IntKind.i64.wrap (IntKind.i64.wrap (p * 7) + 3) = p * 7 + 3 := by rw [wrap_id (n := p * 7) (by omega) (by omega), wrap_id (by omega) (by omega)]
 obtain ⟨j, hj, j1, j2⟩ := imod_ok (a := p * 7 + 3) (b := b.length) (by omega) (by omega)
 obtain ⟨y, hy⟩ := getU j1 j2
 have q1 : 0 ≤ p.tdiv b.length := Int.tdiv_nonneg h0 (by omega)
 have q2 : p.tdiv b.length ≤ p := Int.tdiv_le_self _ h0
 have hq : idiv p b.length = some (p.tdiv b.length) := by
  unfold idiv
  rw [if_pos (by omega), wrap_id (by omega) (by omega)]
 rw [hi, Option.bind_some, hx, Option.bind_some, e3, hj, Option.bind_some, hy, Option.bind_some, hq, Option.bind_some]
 have ux := hx8 x
 have uy := hx8 y
 have wx : 0 ≤ (x.toNat : Int) := by omega
 have wy : 0 ≤ (y.toNat : Int) := by omega
 generalize (x.toNat : Int) = X at ux wx ⊢
 generalize (y.toNat : Int) = Y at uy wy ⊢
 generalize p.tdiv b.length = T at q1 q2 ⊢
 rw [wrap_id (n := X) (by omega) (by omega), wrap_id (n := Y) (by omega) (by omega), wrap_id (n := X * 131) (by omega) (by omega), wrap_id (n := Y * 1117) (by omega) (by omega), wrap_id (n := X * 131 + Y * 1117) (by omega) (by omega),
  wrap_id (n := p * 29) (by omega) (by omega), wrap_id (n := X * 131 + Y * 1117 + p * 29) (by omega) (by omega), wrap_id (n := T * 53) (by omega) (by omega), wrap_id (n := X * 131 + Y * 1117 + p * 29 + T * 53) (by omega) (by omega)]
 have s0 : 0 ≤ X * 131 + Y * 1117 + p * 29 + T * 53 := by omega
 have s1 : X * 131 + Y * 1117 + p * 29 + T * 53 < 4294967296 := by omega
 generalize X * 131 + Y * 1117 + p * 29 + T * 53 = S at s0 s1 ⊢
 have t0 : 0 ≤ S.tdiv 64 := Int.tdiv_nonneg s0 (by omega)
 have t1 : S.tdiv 64 ≤ S := Int.tdiv_le_self _ s0
 rw [wrap_id (by omega) (by omega)]
 obtain ⟨v, hv, h1, h2⟩ := imod_ok (a := ixor S (S.tdiv 64)) (b := n) (by omega) (ixor_nn s0 s1 t0 (by omega))
 rw [hv]
 exact ⟨v, rfl, h1, fun _ => h2⟩
def Drw {α : Type} (g : Rd → Option (α × Int)) (k : Nat) (P : α → Prop) : Prop := ∀ (b : List UInt8) (p : Int), b.length ≤ 2000 → 0 ≤ p → p + k ≤ 100000 → ∃ a p', g ⟨b, p⟩ = some (a, p') ∧ p ≤ p' ∧ p' ≤ p + k ∧ P a
theorem dr_pick {n : Int} : Drw (fun r => gf_cw9 r n) 1 fun v => 0 ≤ v ∧ (1 ≤ n → v < n) := fun b p hb h0 hp => by
 obtain ⟨v, hv, h⟩ := p_pick (n := n) hb h0 (by omega)
 exact ⟨v, p + 1, hv, by omega, by omega, h⟩
theorem dr_of {l : List Str} (hl : l ≠ []) : Drw (fun r => gf_cv9 r l) 1 fun v => v ∈ l := fun b p hb h0 hp => by
 obtain ⟨v, hv, h1, h2⟩ := p_pick (n := (l.length : Int)) hb h0 (by omega)
 have hn : 0 < l.length := List.length_pos_iff.2 hl
 have h3 := h2 (by omega)
 have hx : idx l v = some l[v.toNat] := by rw [idx_int h1]; exact List.getElem?_eq_getElem (by omega)
 exact ⟨l[v.toNat], p + 1, by simp only [gf_cv9, hv, Option.bind_some, hx], by omega, by omega, List.getElem_mem _⟩
theorem dr_num {l : List Int} (hl : l ≠ []) : Drw (fun r => gf_cu9 r l) 1 fun v => v ∈ l := fun b p hb h0 hp => by
 obtain ⟨v, hv, h1, h2⟩ := p_pick (n := (l.length : Int)) hb h0 (by omega)
 have hn : 0 < l.length := List.length_pos_iff.2 hl
 have h3 := h2 (by omega)
 have hx : idx l v = some l[v.toNat] := by rw [idx_int h1]; exact List.getElem?_eq_getElem (by omega)
 exact ⟨l[v.toNat], p + 1, by simp only [gf_cu9, hv, Option.bind_some, hx], by omega, by omega, List.getElem_mem _⟩
theorem dr_l1Pt : Drw gf_db9 2 fun _ => True := fun b p hb h0 hp => by
 obtain ⟨x, p1, h1, a1, b1, _⟩ := dr_pick (n := 4) b p hb h0 (by omega)
 obtain ⟨y, p2, h2, a2, b2, _⟩ := dr_num (l := [0, 1, 2, 5]) (by simp) b p1 hb (by omega) (by omega)
 refine ⟨⟨x, y⟩, p2, ?_, by omega, by omega, trivial⟩
 unfold gf_db9
 simp only at h1 h2
 simp only [h1, Option.bind_some, h2]
theorem p_l1Min (a c : Int) : ∃ v, gf_cz9 a c = some v := by
 unfold gf_cz9
 split <;> exact ⟨_, rfl⟩
theorem someB {p : Bool} {A B : Option Bool} (ha : ∃ q, A = some q) (hb : ∃ q, B = some q) : ∃ q, (if p = true then A else B) = some q := by
 split
 ·exact ha
 ·exact hb
theorem l1Shape_loop (q : Int) (a : Rd) (x : Int × Int) (hb : a.b.length ≤ 2000) : ∀ (m n : Nat) (i p : Int) (pts : List Pt), m < n → 0 ≤ i → i + m = 12 → (pts.length : Int) ≤ i → 0 ≤ p → p + 2 * m ≤ 100000 → ∃ p' pts', gl_de9_1 q a x n i p pts = some (p', pts') ∧ p ≤ p' ∧ p' ≤ p + 2 * m ∧ pts'.length ≤ 12
 | _, 0, _, _, _, h, _, _, _, _, _ => by omega
 | 0, n + 1, i, p, pts, h, h0, hi, hl, hp, hk => by
  refine ⟨p, pts, ?_, by omega, by omega, by omega⟩
  unfold gl_de9_1
  rw [if_neg (by simp; omega)]
 | m + 1, n + 1, i, p, pts, h, h0, hi, hl, hp, hk => by
  unfold gl_de9_1
  rw [if_pos (by simp; omega)]
  obtain ⟨w, hw⟩ := p_l1Min q 6
  rw [hw, Option.bind_some]
  by_cases hlt : (pts.length : Int) < w
  ·rw [if_pos (by simpa using hlt)]
   obtain ⟨t, p1, h1, a1, b1, _⟩ := dr_l1Pt a.b p hb hp (by omega)
   rw [h1, Option.bind_some]
   simp only
   have hq : ∃ z, (if ((pts.length : Int) == 0) = true then (some true) else ((idx pts (IntKind.i64.wrap ((pts.length : Int) - 1))).bind fun x130 => if (!((x130.x == t.x) && ((x130.y == t.y) && true))) = true then (if (x.1 != 3) = true then (some true) else ((idx pts 0).bind fun x132 => some (!((x132.x == t.x) && ((x132.y == t.y) && true))))) else (some false))) = some z := by
    by_cases hz : pts.length = 0
    ·exact ⟨true, by rw [if_pos (by simp [hz])]⟩
    ·rw [if_neg (by simpa using hz)]
     have e : IntKind.i64.wrap ((pts.length : Int) - 1) = ((pts.length - 1 : Nat) : Int) := wrap_pred (by omega) (by omega)
     obtain ⟨y, hy⟩ := getI (xs := pts) (i := pts.length - 1) (by omega)
     obtain ⟨z, hz0⟩ := getI (xs := pts) (i := 0) (by omega)
     have hz1 : idx pts 0 = some z := by rw [show (0 : Int) = ((0 : Nat) : Int) from rfl, idx_nat]; exact hz0
     rw [e, idx_nat, hy, Option.bind_some]
     refine someB (someB ⟨_, rfl⟩ ?_) ⟨_, rfl⟩
     rw [hz1]
     exact ⟨_, rfl⟩
   obtain ⟨z, hz⟩ := hq
   rw [hz, Option.bind_some, wrap_id (n := i + 1) (by omega) (by omega)]
   by_cases hzz : z = true
   ·rw [if_pos hzz, if_pos (fits_small (by simp; omega))]
    obtain ⟨p', pts', g1, g2, g3, g4⟩ := l1Shape_loop q a x hb m n (i + 1) p1 (pts ++ [t]) (by omega) (by omega) (by omega) (by simp; omega) (by omega) (by omega)
    exact ⟨p', pts', g1, by omega, by omega, g4⟩
   ·rw [if_neg hzz]
    obtain ⟨p', pts', g1, g2, g3, g4⟩ := l1Shape_loop q a x hb m n (i + 1) p1 pts (by omega) (by omega) (by omega) (by omega) (by omega) (by omega)
    exact ⟨p', pts', g1, by omega, by omega, g4⟩
  ·rw [if_neg (by simpa using hlt)]
   exact ⟨p, pts, rfl, by omega, by omega, by omega⟩
theorem dr_l1Shape : Drw gf_de9 30 fun s => 1 ≤ s.pts.length ∧ s.pts.length ≤ 12 := fun b p hb h0 hp => by
 obtain ⟨k, p1, h1, a1, b1, hk⟩ := dr_num (l := [1, 2, 2, 3, 3]) (by simp) b p hb h0 (by omega)
 obtain ⟨w, p2, h2, a2, b2, _⟩ := dr_pick (n := 4) b p1 hb (by omega) (by omega)
 unfold gf_de9
 simp only at h1 h2
 simp only [h1, Option.bind_some, h2]
 have hq : ∃ q, (if (k == 1) = true then some 1 else some (IntKind.i64.wrap (k + w)) : Option Int) = some q := by split <;> exact ⟨_, rfl⟩
 obtain ⟨q, hq⟩ := hq
 rw [hq, Option.bind_some]
 obtain ⟨p3, pts, h3, a3, b3, c3⟩ := l1Shape_loop q ⟨b, p⟩ (k, p1) hb 12 rounds 0 p2 [] (by decide) (by omega) (by omega) (by simp) (by omega) (by omega)
 rw [h3, Option.bind_some]
 simp only
 rw [s_ShapeOk (by simp; omega), Option.bind_some]
 by_cases hs : mShape ⟨k, pts⟩ = true
 ·rw [hs]
  refine ⟨_, p3, rfl, by omega, by omega, ?_, c3⟩
  simp only [mShape, Bool.and_eq_true] at hs
  have h4 := hs.2.2
  simp only
  by_cases e1 : k = 1
  ·rw [if_pos e1] at h4; have := of_decide_eq_true h4; omega
  ·rw [if_neg e1] at h4
   by_cases e2 : k = 2
   ·rw [if_pos e2] at h4; have := of_decide_eq_true h4; omega
   ·rw [if_neg e2] at h4
    by_cases e3 : k = 3
    ·rw [if_pos e3] at h4
     simp only [Bool.and_eq_true, decide_eq_true_eq] at h4
     omega
    ·rw [if_neg e3] at h4
     cases h4
 ·rw [Bool.not_eq_true] at hs
  rw [hs]
  obtain ⟨t, p4, h4, a4, b4, _⟩ := dr_l1Pt b p3 hb (by omega) (by omega)
  simp only [Bool.not_false, if_true, h4, Option.bind_some]
  exact ⟨_, p4, rfl, by omega, by omega, by simp, by simp⟩
theorem put_loop {α : Type} {f : α} {c1 c2 : α → Bool} {gl : List α → Nat → Bool → List α → Option (Bool × List α)} (h0 : ∀ k v w, gl [] k v w = some (v, w))
  (h1 : ∀ x l k v w, gl (x :: l) k v w = ((if (!v) = true then (if c1 x = true then (if fits (w ++ [f]).length = true then some (true, (w ++ [f])) else none) else (some (v, w))) else (some (v, w)) : Option (Bool × (List α)))).bind fun q => if c2 x = true then (if fits (q.2 ++ [x]).length = true then gl l (k + 1) q.1 (q.2 ++ [x]) else none) else gl l (k + 1) q.1 q.2) :
  ∀ (l : List α) (k : Nat) (v : Bool) (w : List α), w.length + l.length + (if v then 0 else 1) ≤ 1000000 → ∃ d out, gl l k v w = some (d, out) ∧ out.length + (if d then 0 else 1) ≤ w.length + l.length + (if v then 0 else 1) ∧ ∀ y ∈ out, y ∈ w ∨ y ∈ l ∨ y = f
 | [], k, v, w, hl => ⟨v, w, h0 k v w, by simp, fun y hy => .inl hy⟩
 | x :: l, k, v, w, hl => by
  simp only [List.length_cons] at hl
  rw [h1]
  have hq : ∃ v2 w2, ((if (!v) = true then (if c1 x = true then (if fits (w ++ [f]).length = true then some (true, (w ++ [f])) else none) else (some (v, w))) else (some (v, w)) : Option (Bool × (List α)))) = some (v2, w2) ∧ w2.length + (if v2 then 0 else 1) ≤ w.length + (if v then 0 else 1) ∧ ∀ y ∈ w2, y ∈ w ∨ y = f := by
   cases v
   ·simp only [Bool.not_false, if_true]
    by_cases hc : c1 x = true
    ·rw [if_pos hc, if_pos (fits_small (by simp; omega))]
     exact ⟨true, w ++ [f], rfl, by simp, fun y hy => by simpa using hy⟩
    ·rw [if_neg hc]
     exact ⟨false, w, rfl, by simp, fun y hy => .inl hy⟩
   ·exact ⟨true, w, rfl, by simp, fun y hy => .inl hy⟩
  obtain ⟨v2, w2, e, q1, q2⟩ := hq
  rw [e, Option.bind_some]
  have hw2 : w2.length ≤ w.length + 1 := by
   cases v <;> cases v2 <;> simp at q1 <;> omega
  by_cases hc : c2 x = true
  ·rw [if_pos hc, if_pos (fits_small (by simp; omega))]
   obtain ⟨d, out, g1, g2, g3⟩ := put_loop h0 h1 l (k + 1) v2 (w2 ++ [x]) (by
    simp only [List.length_append, List.length_singleton]
    omega)
   refine ⟨d, out, g1, ?_, fun y hy => ?_⟩
   ·simp only [List.length_append, List.length_cons, List.length_singleton, List.length_nil] at g2 ⊢
    omega
   ·rcases g3 y hy with h | h | h
    ·rcases List.mem_append.1 h with h | h
     ·rcases q2 y h with h | h <;> simp [h]
     ·simp at h; simp [h]
    ·simp [h]
    ·simp [h]
  ·rw [if_neg hc]
   obtain ⟨d, out, g1, g2, g3⟩ := put_loop h0 h1 l (k + 1) v2 w2 (by omega)
   refine ⟨d, out, g1, ?_, fun y hy => ?_⟩
   ·simp only [List.length_cons] at g2 ⊢
    omega
   ·rcases g3 y hy with h | h | h
    ·rcases q2 y h with h | h <;> simp [h]
    ·simp [h]
    ·simp [h]
theorem put_end {α : Type} {f : α} {xs : List α} {z : Option (Bool × List α)} (hl : xs.length + 1 ≤ 1048576) (h : ∃ d out, z = some (d, out) ∧ out.length + (if d then 0 else 1) ≤ xs.length + 1 ∧ ∀ y ∈ out, y ∈ xs ∨ y = f) :
  ∃ out, (if fits xs.length = true then (z.bind fun q => if (!q.1) = true then (if fits (q.2 ++ [f]).length = true then some (q.2 ++ [f]) else none) else some q.2) else none) = some out ∧ out.length ≤ xs.length + 1 ∧ ∀ y ∈ out, y ∈ xs ∨ y = f := by
 obtain ⟨d, out, rfl, h1, h2⟩ := h
 rw [if_pos (fits_small (by omega)), Option.bind_some]
 cases d
 ·simp only [Bool.not_false, if_true]
  simp at h1
  rw [if_pos (fits_small (by simp; omega))]
  exact ⟨_, rfl, by simp; omega, fun y hy => by
   rcases List.mem_append.1 hy with h | h
   ·exact h2 y h
   ·simp at h; exact .inr h⟩
 ·simp at h1
  exact ⟨out, rfl, h1, h2⟩
theorem dr_l3Put {s : List Feat} {f : Feat} (h : s.length ≤ 1000) : ∃ out, gf_dt9 s f = some out ∧ out.length ≤ s.length + 1 ∧ ∀ y ∈ out, y ∈ s ∨ y = f := by
 unfold gf_dt9
 refine put_end (by omega) ?_
 obtain ⟨d, out, h1, h2, h3⟩ := put_loop (gl := gl_dt9_1 f) (f := f) (c1 := fun x => !slt x.id f.id) (c2 := fun x => !seq x.id f.id) (fun _ _ _ => rfl) (fun _ _ _ _ _ => rfl) s 0 false [] (by simp; omega)
 exact ⟨d, out, h1, by simpa using h2, fun y hy => by simpa using h3 y hy⟩
theorem dr_l3Put_xl {s : List Feat} {f : Feat} (h : s.length ≤ 1000) : ∃ out, gf_du9 s f = some out ∧ out.length ≤ s.length + 1 ∧ ∀ y ∈ out, y ∈ s ∨ y = f := by
 unfold gf_du9
 refine put_end (by omega) ?_
 obtain ⟨d, out, h1, h2, h3⟩ := put_loop (gl := gl_du9_1 f) (f := f) (c1 := fun x => !slt x.id f.id) (c2 := fun x => !seq x.id f.id) (fun _ _ _ => rfl) (fun _ _ _ _ _ => rfl) s 0 false [] (by simp; omega)
 exact ⟨d, out, h1, by simpa using h2, fun y hy => by simpa using h3 y hy⟩
theorem dr_l2Put {s : List Tag} {a b : Str} (h : s.length ≤ 1000) : ∃ out, gf_dl9 s a b = some out ∧ out.length ≤ s.length + 1 ∧ ∀ y ∈ out, y ∈ s ∨ y = ⟨a, b⟩ := by
 unfold gf_dl9
 refine put_end (by omega) ?_
 obtain ⟨d, out, h1, h2, h3⟩ := put_loop (gl := gl_dl9_1 a b) (f := (⟨a, b⟩ : Tag)) (c1 := fun x => !slt x.key a) (c2 := fun x => !seq x.key a) (fun _ _ _ => rfl) (fun _ _ _ _ _ => rfl) s 0 false [] (by simp; omega)
 exact ⟨d, out, h1, by simpa using h2, fun y hy => by simpa using h3 y hy⟩
def bF (k : Nat) (f : Feat) : Prop := (f.id.size ≤ 7 ∧ f.id.size ≠ 2) ∧ f.shape.pts.length ≤ 20 + k ∧ f.tags.length ≤ 20 + k ∧ ∀ t ∈ f.tags, t.key.size ≤ 7 ∧ t.val.size ≤ 7
def bS (k : Nat) (s : List Feat) : Prop := s.length ≤ 20 + k ∧ ∀ f ∈ s, bF k f
theorem bF_up {k : Nat} {f : Feat} (h : bF k f) : bF (k + 1) f := ⟨h.1, by have := h.2.1; omega, by have := h.2.2.1; omega, h.2.2.2⟩
theorem sum_le2 {α : Type} {w : α → Nat} {n : Nat} : ∀ {xs : List α}, (∀ x ∈ xs, w x ≤ n) → sumW w xs ≤ n * xs.length
 | [], h => by simp [sumW]
 | x :: xs, h => by
  have h1 := h x (by simp)
  have h2 := sum_le2 (xs := xs) (n := n) fun y hy => h y (by simp [hy])
  simp only [sumW, List.length_cons, Nat.mul_add, Nat.mul_one]
  omega
theorem bF_w {k : Nat} {f : Feat} (h : bF k f) (hk : k ≤ 4) : wFeat f ≤ 400 := by
 obtain ⟨⟨h1, _⟩, h2, h3, h4⟩ := h
 have := sum_le2 (w := wTag) (n := 14) (xs := f.tags) fun t ht => by have := h4 t ht; unfold wTag; omega
 unfold wFeat wShape wL
 rw [sum_w0]
 omega
theorem bS_w {k : Nat} {s : List Feat} (h : bS k s) (hk : k ≤ 4) : wL wFeat s ≤ 10000 := by
 have h1 := h.1
 have := sum_le2 (w := wFeat) (n := 400) (xs := s) fun f hf => bF_w (h.2 f hf) hk
 unfold wL
 omega
theorem dr_l2Id : Drw gf_dj9 1 fun s => s.size ≤ 7 ∧ s.size ≠ 2 := fun b p hb h0 hp => by
 unfold gf_dj9
 obtain ⟨x, p1, h1, a1, b1, hx⟩ := dr_of (l := _) (List.cons_ne_nil _ _) b p hb h0 hp
 simp only at h1
 rw [h1]
 exact ⟨x, p1, rfl, a1, b1, (by decide : ∀ y ∈ _, y.size ≤ 7 ∧ y.size ≠ 2) x hx⟩
theorem dr_l2Key : Drw gf_dk9 1 fun s => s.size ≤ 7 := fun b p hb h0 hp => by
 unfold gf_dk9
 obtain ⟨x, p1, h1, a1, b1, hx⟩ := dr_of (l := _) (List.cons_ne_nil _ _) b p hb h0 hp
 simp only at h1
 rw [h1]
 exact ⟨x, p1, rfl, a1, b1, (by decide : ∀ y ∈ _, y.size ≤ 7) x hx⟩
theorem dr_l2Val : Drw gf_do9 1 fun s => s.size ≤ 7 := fun b p hb h0 hp => by
 unfold gf_do9
 obtain ⟨x, p1, h1, a1, b1, hx⟩ := dr_of (l := _) (List.cons_ne_nil _ _) b p hb h0 hp
 simp only at h1
 rw [h1]
 exact ⟨x, p1, rfl, a1, b1, (by decide : ∀ y ∈ _, y.size ≤ 7) x hx⟩
theorem dr_l7Name : Drw gf_el9 1 fun s => s ∈ [(⟨#[109, 97, 105, 110]⟩ : Str), (⟨#[97, 110, 110]⟩ : Str), (⟨#[98, 111, 98]⟩ : Str)] := fun b p hb h0 hp => by
 unfold gf_el9
 obtain ⟨x, p1, h1, a1, b1, hx⟩ := dr_of (l := _) (List.cons_ne_nil _ _) b p hb h0 hp
 simp only at h1
 rw [h1]
 exact ⟨x, p1, rfl, a1, b1, hx⟩
abbrev onS : Str := ⟨#[111, 110]⟩
def nt (s : Str) : Prop := s.size ≤ 7 ∧ s ≠ onS
theorem nt_of {s : Str} (h : (decide (s.size ≤ 7) && !decide (s = onS)) = true) : nt s := by simpa [nt] using h
theorem dr_l7Note : Drw gf_em9 1 fun s => nt s := fun b p hb h0 hp => by
 unfold gf_em9
 obtain ⟨x, p1, h1, a1, b1, hx⟩ := dr_of (l := _) (List.cons_ne_nil _ _) b p hb h0 hp
 simp only at h1
 rw [h1]
 refine ⟨x, p1, rfl, a1, b1, nt_of ?_⟩
 simp only [List.mem_cons, List.not_mem_nil, or_false] at hx
 rcases hx with rfl | rfl | rfl <;> decide
theorem dr_l1Bent : Drw gf_cx9 33 fun s => s.pts.length ≤ 13 := fun b p hb h0 hp => by
 obtain ⟨s, p1, h1, a1, b1, hs1, hs2⟩ := dr_l1Shape b p hb h0 (by omega)
 obtain ⟨k, p2, h2, a2, b2, hk1, hk2⟩ := dr_pick (n := (s.pts.length : Int)) b p1 hb (by omega) (by omega)
 obtain ⟨c, p3, h3, a3, b3, _⟩ := dr_pick (n := 40) b p2 hb (by omega) (by omega)
 have hk2 := hk2 (by omega)
 unfold gf_cx9
 simp only at h2 h3
 simp only [h1, Option.bind_some, h2, h3]
 obtain ⟨y, hy⟩ := getI (xs := s.pts) (i := k.toNat) (by omega)
 have hy' : idx s.pts k = some y := by rw [idx_int hk1]; exact hy
 by_cases c0 : (c == 0) = true
 ·rw [if_pos c0]
  obtain ⟨x, p4, h4, a4, b4, _⟩ := dr_num (l := [0, 4, 1, 2, 3]) (by simp) b p3 hb (by omega) (by omega)
  simp only at h4
  rw [h4]
  exact ⟨_, p4, rfl, by omega, by omega, by simp only; omega⟩
 rw [if_neg c0]
 by_cases c1 : (c == 1) = true
 ·rw [if_pos c1]
  obtain ⟨x, p4, h4, a4, b4, _⟩ := dr_num (l := [1000, 1001, -1001]) (by simp) b p3 hb (by omega) (by omega)
  simp only at h4
  rw [h4, Option.bind_some, hy']
  exact ⟨_, p4, rfl, by omega, by omega, by simp only [List.length_set]; omega⟩
 rw [if_neg c1]
 by_cases c2 : (c == 2) = true
 ·rw [if_pos c2, wrap_pred (by omega) (by omega), idx_nat]
  obtain ⟨z, hz⟩ := getI (xs := s.pts) (i := s.pts.length - 1) (by omega)
  rw [hz, Option.bind_some, if_pos (fits_small (by simp; omega))]
  exact ⟨_, p3, rfl, by omega, by omega, by simp; omega⟩
 rw [if_neg c2]
 by_cases c3 : (c == 3) = true
 ·rw [if_pos c3]
  unfold slc
  rw [if_pos ⟨by omega, hk1, by omega⟩]
  exact ⟨_, p3, rfl, by omega, by omega, by simp; omega⟩
 rw [if_neg c3]
 exact ⟨_, p3, rfl, by omega, by omega, by omega⟩
def bT (n : Nat) (ts : List Tag) : Prop := ts.length ≤ n ∧ ∀ t ∈ ts, t.key.size ≤ 7 ∧ t.val.size ≤ 7
theorem l2Feat_loop (a : Rd) (hb : a.b.length ≤ 2000) : ∀ (m n : Nat) (i p : Int) (ts : List Tag) (q : Nat), m < n → i = m → bT q ts → q + m ≤ 100 → 0 ≤ p → p + 2 * m ≤ 100000 → m ≤ 100 → ∃ ts' p', gl_di9_1 a n i p ts = some (ts', p') ∧ p ≤ p' ∧ p' ≤ p + 2 * m ∧ bT (q + m) ts'
 | _, 0, _, _, _, _, h, _, _, _, _, _, _ => by omega
 | 0, n + 1, i, p, ts, q, h, hi, ht, hq, hp, hk, hm => by
  unfold gl_di9_1
  rw [if_neg (by simp; omega)]
  exact ⟨ts, p, rfl, by omega, by omega, ht⟩
 | m + 1, n + 1, i, p, ts, q, h, hi, ht, hq, hp, hk, hm => by
  unfold gl_di9_1
  rw [if_pos (by simp; omega)]
  obtain ⟨k, p1, h1, a1, b1, c1⟩ := dr_l2Key a.b p hb hp (by omega)
  obtain ⟨v, p2, h2, a2, b2, c2⟩ := dr_l2Val a.b p1 hb (by omega) (by omega)
  obtain ⟨o, h3, h4, h5⟩ := dr_l2Put (s := ts) (a := k) (b := v) (by have := ht.1; omega)
  simp only [h1, Option.bind_some, h2, h3]
  rw [wrap_id (by omega) (by omega)]
  have ht1 : ts.length ≤ q := ht.1
  have ho : o.length ≤ q + 1 := by omega
  obtain ⟨ts', p', g1, g2, g3, g4⟩ := l2Feat_loop a hb m n (i - 1) p2 o (q + 1) (by omega) (by omega) ⟨ho, fun t hh => by
   rcases h5 t hh with h | h
   ·exact ht.2 t h
   ·subst h; exact ⟨c1, c2⟩⟩ (by omega) (by omega) (by omega) (by omega)
  exact ⟨ts', p', g1, by omega, by omega, by rw [show q + (m + 1) = q + 1 + m by omega]; exact g4⟩
theorem dr_l2Feat {id : Str} (hid : id.size ≤ 7 ∧ id.size ≠ 2) : Drw (fun r => gf_di9 r id) 40 fun f => (f.id.size ≤ 7 ∧ f.id.size ≠ 2) ∧ f.shape.pts.length ≤ 12 ∧ bT 4 f.tags := fun b p hb h0 hp => by
 obtain ⟨s, p1, h1, a1, b1, hs1, hs2⟩ := dr_l1Shape b p hb h0 (by omega)
 obtain ⟨k, p2, h2, a2, b2, hk1, hk2⟩ := dr_pick (n := 4) b p1 hb (by omega) (by omega)
 have hk2 := hk2 (by omega)
 simp only [gf_di9]
 simp only at h2
 simp only [h1, Option.bind_some, h2]
 obtain ⟨ts, p3, h3, a3, b3, c3⟩ := l2Feat_loop ⟨b, p⟩ hb k.toNat rounds k p2 [] 0 (by unfold rounds; omega) (by omega) ⟨by simp, by simp⟩ (by omega) (by omega) (by omega) (by omega)
 rw [h3]
 exact ⟨_, p3, rfl, by omega, by omega, hid, hs2, (show ts.length ≤ 4 by have h := c3.1; have h' : ts.length ≤ 0 + k.toNat := h; omega), c3.2⟩
theorem dr_l2Bent : Drw gf_dg9 80 fun f => bF 0 f := fun b p hb h0 hp => by
 obtain ⟨i, p1, h1, a1, b1, hi⟩ := dr_l2Id b p hb h0 (by omega)
 obtain ⟨f, p2, h2, a2, b2, f1, f2, f3, f4⟩ := dr_l2Feat hi b p1 hb (by omega) (by omega)
 obtain ⟨c, p3, h3, a3, b3, _⟩ := dr_pick (n := 40) b p2 hb (by omega) (by omega)
 unfold gf_dg9
 simp only at h2 h3
 simp only [h1, Option.bind_some, h2, h3]
 by_cases c0 : (c == 0) = true
 ·rw [if_pos c0]
  obtain ⟨x, p4, h4, a4, b4, hx⟩ := dr_of (l := [(⟨#[]⟩ : Str), (⟨#[65]⟩ : Str), (⟨#[97, 98, 99, 100, 101, 102, 103]⟩ : Str)]) (by simp) b p3 hb (by omega) (by omega)
  simp only at h4
  rw [h4]
  exact ⟨_, p4, rfl, by omega, by omega, (by decide : ∀ y ∈ [(⟨#[]⟩ : Str), (⟨#[65]⟩ : Str), (⟨#[97, 98, 99, 100, 101, 102, 103]⟩ : Str)], y.size ≤ 7 ∧ y.size ≠ 2) x hx, by simp only; omega, by simp only; omega, f4⟩
 rw [if_neg c0]
 by_cases c1 : (c == 1) = true
 ·rw [if_pos c1]
  obtain ⟨x, p4, h4, a4, b4, hx⟩ := dr_l1Bent b p3 hb (by omega) (by omega)
  rw [h4]
  exact ⟨_, p4, rfl, by omega, by omega, f1, by simp only; omega, by simp only; omega, f4⟩
 rw [if_neg c1]
 by_cases c2 : (c == 2) = true
 ·rw [if_pos c2, if_pos (fits_small (by simp; omega))]
  refine ⟨_, p3, rfl, by omega, by omega, f1, by simp only; omega, by simp; omega, fun t ht => ?_⟩
  rcases List.mem_append.1 ht with h | h
  ·exact f4 t h
  ·simp only [List.mem_singleton] at h; subst h; exact ⟨by decide, by decide⟩
 rw [if_neg c2]
 by_cases c3 : (c == 3) = true
 ·rw [if_pos c3]
  obtain ⟨x, p4, h4, a4, b4, hx⟩ := dr_of (l := [(⟨#[]⟩ : Str), (⟨#[66]⟩ : Str)]) (by simp) b p3 hb (by omega) (by omega)
  simp only at h4
  rw [h4, Option.bind_some, if_pos (fits_small (by simp; omega))]
  refine ⟨_, p4, rfl, by omega, by omega, f1, by simp only; omega, by simp; omega, fun t ht => ?_⟩
  rcases List.mem_append.1 ht with h | h
  ·exact f4 t h
  ·simp only [List.mem_singleton] at h; subst h; exact ⟨(by decide : (⟨#[122, 122]⟩ : Str).size ≤ 7), (by decide : ∀ y ∈ [(⟨#[]⟩ : Str), (⟨#[66]⟩ : Str)], y.size ≤ 7) x hx⟩
 rw [if_neg c3]
 exact ⟨_, p3, rfl, by omega, by omega, f1, by simp only; omega, by simp only; omega, f4⟩
theorem l3Sheet_loop (a : Rd) (hb : a.b.length ≤ 2000) : ∀ (m n : Nat) (i p : Int) (s : List Feat), m < n → i = m → (s.length + m ≤ 20 ∧ ∀ f ∈ s, bF 0 f) → 0 ≤ p → p + 41 * m ≤ 100000 → ∃ s' p', gl_dv9_1 a n i p s = some (s', p') ∧ p ≤ p' ∧ p' ≤ p + 41 * m ∧ s'.length ≤ s.length + m ∧ ∀ f ∈ s', bF 0 f
 | _, 0, _, _, _, h, _, _, _, _ => by omega
 | 0, n + 1, i, p, s, h, hi, hs, hp, hk => by
  unfold gl_dv9_1
  rw [if_neg (by simp; omega)]
  exact ⟨s, p, rfl, by omega, by omega, by omega, hs.2⟩
 | m + 1, n + 1, i, p, s, h, hi, hs, hp, hk => by
  unfold gl_dv9_1
  rw [if_pos (by simp; omega)]
  obtain ⟨k, p1, h1, a1, b1, c1⟩ := dr_l2Id a.b p hb hp (by omega)
  obtain ⟨f, p2, h2, a2, b2, f1, f2, f3, f4⟩ := dr_l2Feat c1 a.b p1 hb (by omega) (by omega)
  have hs1 := hs.1
  obtain ⟨o, h3, h4, h5⟩ := dr_l3Put_xl (s := s) (f := f) (by omega)
  simp only at h2
  simp only [h1, Option.bind_some, h2, h3]
  rw [wrap_id (by omega) (by omega)]
  obtain ⟨s', p', g1, g2, g3, g4, g5⟩ := l3Sheet_loop a hb m n (i - 1) p2 o (by omega) (by omega) ⟨by omega, fun t hh => by
   rcases h5 t hh with h | h
   ·exact hs.2 t h
   ·subst h; exact ⟨f1, by omega, by omega, f4⟩⟩ (by omega) (by omega)
  exact ⟨s', p', g1, by omega, by omega, by omega, g5⟩
theorem dr_l3Sheet : Drw gf_dv9 170 fun s => s.length ≤ 4 ∧ ∀ f ∈ s, bF 0 f := fun b p hb h0 hp => by
 obtain ⟨k, p2, h2, a2, b2, hk1, hk2⟩ := dr_pick (n := 5) b p hb (by omega) (by omega)
 have hk2 := hk2 (by omega)
 unfold gf_dv9
 simp only at h2
 simp only [h2, Option.bind_some]
 obtain ⟨s, p3, h3, a3, b3, c3, d3⟩ := l3Sheet_loop ⟨b, p⟩ hb k.toNat rounds k p2 [] (by unfold rounds; omega) (by omega) ⟨by simp; omega, by simp⟩ (by omega) (by omega)
 rw [h3]
 simp only [List.length_nil] at c3
 exact ⟨s, p3, rfl, by omega, by omega, by omega, d3⟩
theorem l3Bent_loop : ∀ (m n : Nat) (i : Int) (s : List Feat), m < n → 0 ≤ i → i + m = 9 → (s.length + m ≤ 20 ∧ ∀ f ∈ s, bF 0 f) → ∃ s', gl_dp9_1 n i s = some s' ∧ s'.length ≤ s.length + m ∧ ∀ f ∈ s', bF 0 f
 | _, 0, _, _, h, _, _, _ => by omega
 | 0, n + 1, i, s, h, h0, hi, hs => by
  unfold gl_dp9_1
  rw [if_neg (by simp; omega)]
  exact ⟨s, rfl, by omega, hs.2⟩
 | m + 1, n + 1, i, s, h, h0, hi, hs => by
  unfold gl_dp9_1
  rw [if_pos (by simp; omega), wrap_id (by omega) (by omega)]
  have hs1 := hs.1
  have hz : (⟨#[113, 114, 115, 116, 117, 118, 119, 120, 121, 122]⟩ : Str).size = 10 := by decide
  have hx : ∃ x : Str, sslc (⟨#[113, 114, 115, 116, 117, 118, 119, 120, 121, 122]⟩ : Str) i (i + 1) = some x ∧ x.size ≤ 7 ∧ x.size ≠ 2 := by
   unfold sslc
   rw [if_pos ⟨h0, by omega, by rw [hz]; omega⟩]
   refine ⟨_, rfl, ?_⟩
   rw [ByteArray.size_extract, hz]
   omega
  obtain ⟨x, hx1, hx2⟩ := hx
  obtain ⟨o, h3, h4, h5⟩ := dr_l3Put_xl (s := s) (f := ⟨x, ⟨1, [⟨0, 0⟩]⟩, []⟩) (by omega)
  rw [hx1, Option.bind_some, h3, Option.bind_some]
  obtain ⟨s', g1, g2, g3⟩ := l3Bent_loop m n (i + 1) o (by omega) (by omega) (by omega) ⟨by omega, fun t hh => by
   rcases h5 t hh with h | h
   ·exact hs.2 t h
   ·subst h; exact ⟨hx2, by simp, by simp, by simp⟩⟩
  exact ⟨s', g1, by omega, g3⟩
theorem dr_l3Bent : Drw gf_dp9 260 fun s => bS 0 s := fun b p hb h0 hp => by
 obtain ⟨s, p1, h1, a1, b1, hs1, hs2⟩ := dr_l3Sheet b p hb h0 (by omega)
 obtain ⟨c, p2, h2, a2, b2, _⟩ := dr_pick (n := 40) b p1 hb (by omega) (by omega)
 unfold gf_dp9
 simp only at h2
 simp only [h1, Option.bind_some, h2]
 by_cases c0 : (c == 0) = true
 ·rw [if_pos c0]
  obtain ⟨f, p3, h3, a3, b3, hf⟩ := dr_l2Bent b p2 hb (by omega) (by omega)
  rw [h3, Option.bind_some, if_pos (fits_small (by simp; omega))]
  refine ⟨_, p3, rfl, by omega, by omega, by simp; omega, fun t ht => ?_⟩
  rcases List.mem_append.1 ht with h | h
  ·exact hs2 t h
  ·simp only [List.mem_singleton] at h; subst h; exact hf
 rw [if_neg c0]
 by_cases c1 : (c == 1) = true
 ·rw [if_pos c1, if_pos (fits_small (by simp; omega))]
  exact ⟨_, p2, rfl, by omega, by omega, by simp; omega, fun t ht => by rcases List.mem_append.1 ht with h | h <;> exact hs2 t h⟩
 rw [if_neg c1]
 by_cases c2 : (c == 2) = true
 ·rw [if_pos c2]
  obtain ⟨s', g1, g2, g3⟩ := l3Bent_loop 9 rounds 0 s (by decide) (by omega) (by omega) ⟨by omega, hs2⟩
  rw [g1]
  exact ⟨s', p2, rfl, by omega, by omega, by omega, g3⟩
 rw [if_neg c2]
 exact ⟨s, p2, rfl, by omega, by omega, by omega, hs2⟩
theorem p_l4Bend {s : Shape} {k : Nat} (hs : s.pts.length ≤ 20 + k) (hk : k ≤ 4) : Drw (fun r => gf_dw9 r s) 4 fun z => z.pts.length ≤ 20 + (k + 1) := fun b p hb h0 hp => by
 simp only [gf_dw9]
 by_cases hz : s.pts.length = 0
 ·rw [if_pos (by simp [hz])]
  exact ⟨s, p, rfl, by omega, by omega, by omega⟩
 rw [if_neg (by simpa using hz)]
 obtain ⟨x, p1, h1, a1, b1, hx1, hx2⟩ := dr_pick (n := (s.pts.length : Int)) b p hb h0 (by omega)
 have hx2 := hx2 (by omega)
 obtain ⟨c, p2, h2, a2, b2, _⟩ := dr_pick (n := 3) b p1 hb (by omega) (by omega)
 obtain ⟨t, p3, h3, a3, b3, _⟩ := dr_l1Pt b p2 hb (by omega) (by omega)
 simp only at h1 h2
 have e1 : slc s.pts 0 x = some (s.pts.take x.toNat) := by
  unfold slc
  rw [if_pos ⟨by omega, hx1, by omega⟩]
  simp
 have e2 : slc s.pts x (s.pts.length : Int) = some (s.pts.drop x.toNat) := by
  unfold slc
  rw [if_pos ⟨hx1, by omega, by omega⟩]
  simp
 have e3 : slc s.pts (x + 1) (s.pts.length : Int) = some (s.pts.drop (x.toNat + 1)) := by
  unfold slc
  rw [if_pos ⟨by omega, by omega, by omega⟩]
  have : (x + 1).toNat = x.toNat + 1 := by omega
  simp [this]
 rw [h1, Option.bind_some, e1, Option.bind_some, if_pos (fits_small (by simp; omega)), h2, Option.bind_some]
 have key : ∃ q p4, (if (c == 0) = true then ((gf_db9 (⟨b, p2⟩ : Rd)).bind fun x43 => if fits (([] ++ s.pts.take x.toNat) ++ ([x43.1] : (List Pt))).length = true then (slc s.pts x (s.pts.length : Int)).bind fun x49 => if fits ((([] ++ s.pts.take x.toNat) ++ ([x43.1] : (List Pt))) ++ x49).length = true then some (((([] ++ s.pts.take x.toNat) ++ ([x43.1] : (List Pt))) ++ x49), x43.2) else none else none) else (if (c == 1) = true then ((slc s.pts (IntKind.i64.wrap (x + 1)) (s.pts.length : Int)).bind fun x54 => if fits (([] ++ s.pts.take x.toNat) ++ x54).length = true then some ((([] ++ s.pts.take x.toNat) ++ x54), p2) else none) else ((gf_db9 (⟨b, p2⟩ : Rd)).bind fun x59 => if fits (([] ++ s.pts.take x.toNat) ++ ([x59.1] : (List Pt))).length = true then (slc s.pts (IntKind.i64.wrap (x + 1)) (s.pts.length : Int)).bind fun x65 => if fits ((([] ++ s.pts.take x.toNat) ++ ([x59.1] : (List Pt))) ++ x65).length = true then some (((([] ++ s.pts.take x.toNat) ++ ([x59.1] : (List Pt))) ++ x65), x59.2) else none else none)) : Option ((List Pt) × Int)) = some (q, p4) ∧ q.length ≤ s.pts.length + 1 ∧ p2 ≤ p4 ∧ p4 ≤ p2 + 2 := by
  rw [wrap_id (n := x + 1) (by omega) (by omega)]
  split
  ·rw [h3, Option.bind_some, if_pos (fits_small (by simp; omega)), e2, Option.bind_some, if_pos (fits_small (by simp; omega))]
   exact ⟨_, _, rfl, by simp; omega, a3, b3⟩
  ·split
   ·rw [e3, Option.bind_some, if_pos (fits_small (by simp; omega))]
    exact ⟨_, _, rfl, by simp; omega, by omega, by omega⟩
   ·rw [h3, Option.bind_some, if_pos (fits_small (by simp; omega)), e3, Option.bind_some, if_pos (fits_small (by simp; omega))]
    exact ⟨_, _, rfl, by simp; omega, a3, b3⟩
 obtain ⟨q, p4, g1, g2, g3, g4⟩ := key
 rw [g1, Option.bind_some, s_ShapeOk (by simp only; omega), Option.bind_some]
 by_cases ho : (!mShape ⟨s.kind, q⟩) = true
 ·rw [if_pos ho]
  exact ⟨s, p4, rfl, by omega, by omega, by omega⟩
 ·rw [if_neg ho]
  exact ⟨⟨s.kind, q⟩, p4, rfl, by omega, by omega, by simp only; omega⟩
theorem allF {α : Type} {p : α → Nat → Bool} {l : List α} {k : Nat} (h : allFrom p l k = true) {x : α} (hx : x ∈ l) : ∃ j, p x j = true := by
 obtain ⟨j, hj⟩ := List.getElem?_of_mem hx
 exact ⟨_, allFrom_get h j x hj⟩
theorem mWord_size {s : Str} (h : mWord s = true) : s.size ≤ 7 := by
 simp only [mWord, Bool.and_eq_true, decide_eq_true_eq] at h
 omega
theorem mSheet_bS {s : List Feat} (hn : ∀ f ∈ s, f.id.size ≠ 2) (h : mSheet s = true) : bS 0 s := by
 simp only [mSheet, Bool.and_eq_true, decide_eq_true_eq] at h
 refine ⟨by omega, fun f hf => ?_⟩
 obtain ⟨j, hj⟩ := allF h.1 hf
 simp only [Bool.and_eq_true] at hj
 have h1 := hj.1
 simp only [mFeat, mShape, mTags, Bool.and_eq_true, decide_eq_true_eq] at h1
 refine ⟨⟨mWord_size h1.1, hn f hf⟩, by omega, by omega, fun t ht => ?_⟩
 obtain ⟨i, hi⟩ := allF h1.2.2.1 ht
 simp only [Bool.and_eq_true] at hi
 exact ⟨mWord_size hi.1, mWord_size hi.2.1⟩
theorem cut_loop {c : Feat → Bool} {gl : List Feat → Nat → List Feat → Option (List Feat)} (h0 : ∀ k v, gl [] k v = some v) (h1 : ∀ x l k v, gl (x :: l) k v = if c x = true then (if fits (v ++ [x]).length = true then gl l (k + 1) (v ++ [x]) else none) else gl l (k + 1) v) : ∀ (l : List Feat) (k : Nat) (v : List Feat), v.length + l.length ≤ 1000 → ∃ o, gl l k v = some o ∧ o.length ≤ v.length + l.length ∧ ∀ y ∈ o, y ∈ v ∨ y ∈ l
 | [], k, v, hl => ⟨v, h0 k v, by simp, fun y hy => .inl hy⟩
 | x :: l, k, v, hl => by
  simp only [List.length_cons] at hl
  rw [h1]
  by_cases hc : c x = true
  ·rw [if_pos hc, if_pos (fits_small (by simp; omega))]
   obtain ⟨o, g1, g2, g3⟩ := cut_loop h0 h1 l (k + 1) (v ++ [x]) (by simp; omega)
   refine ⟨o, g1, by simp only [List.length_append, List.length_cons, List.length_nil] at g2 ⊢; omega, fun y hy => ?_⟩
   rcases g3 y hy with h | h
   ·rcases List.mem_append.1 h with h | h
    ·exact .inl h
    ·simp at h; simp [h]
   ·simp [h]
  ·rw [if_neg hc]
   obtain ⟨o, g1, g2, g3⟩ := cut_loop h0 h1 l (k + 1) v (by omega)
   exact ⟨o, g1, by simp only [List.length_cons]; omega, fun y hy => (g3 y hy).imp id fun h => by simp [h]⟩
theorem dr_l3Cut {s : List Feat} {id : Str} (h : s.length ≤ 1000) : ∃ o, gf_dr9 s id = some o ∧ o.length ≤ s.length ∧ ∀ y ∈ o, y ∈ s := by
 unfold gf_dr9
 rw [if_pos (fits_small (by omega))]
 obtain ⟨o, h1, h2, h3⟩ := cut_loop (gl := gl_dr9_1 id) (c := fun x => !seq x.id id) (fun _ _ => rfl) (fun _ _ _ _ => rfl) s 0 [] (by simp; omega)
 rw [h1]
 exact ⟨o, rfl, by simpa using h2, fun y hy => by simpa using h3 y hy⟩
theorem fst_range {α : Type} {p : α → Bool} : ∀ {l : List α} {k : Nat}, fstFrom p l k = -1 ∨ (k : Int) ≤ fstFrom p l k ∧ fstFrom p l k < (k + l.length : Nat)
 | [], k => .inl rfl
 | x :: l, k => by
  simp only [fstFrom]
  split
  ·exact .inr ⟨by omega, by simp only [List.length_cons]; omega⟩
  ·rcases fst_range (p := p) (l := l) (k := k + 1) with h | h
   ·exact .inl h
   ·exact .inr ⟨by omega, by simp only [List.length_cons]; omega⟩
theorem dr_l3Find {s : List Feat} {id : Str} (h : s.length ≤ 1000) : ∃ v, gf_ds9 s id = some v ∧ (v < 0 ∨ 0 ≤ v ∧ v < s.length) := by
 unfold gf_ds9
 rw [if_pos (fits_small (by omega))]
 refine ⟨_, loopF (gl := gl_ds9_1 id) (p := fun x => seq x.id id) (ok := fun _ => True) (fun _ => rfl) (fun _ _ _ _ => rfl) s 0 (fun _ _ => trivial), ?_⟩
 rcases fst_range (p := fun x : Feat => seq x.id id) (l := s) (k := 0) with h | h
 ·left; omega
 ·right; simpa using h
theorem l4Near_loop (a : Rd) (hb : a.b.length ≤ 2000) : ∀ (m n : Nat) (s : List Feat) (i p : Int) (k : Nat), m < n → i = m → bS k s → k + m ≤ 3 → 0 ≤ p → p + 50 * m ≤ 100000 → ∃ s' p', gl_dz9_1 a n s i p = some (s', p') ∧ p ≤ p' ∧ p' ≤ p + 50 * m ∧ bS (k + m) s'
 | _, 0, _, _, _, _, h, _, _, _, _, _ => by omega
 | 0, n + 1, s, i, p, k, h, hi, hs, hk, hp, hq => by
  unfold gl_dz9_1
  rw [if_neg (by simp; omega)]
  exact ⟨s, p, rfl, by omega, by omega, hs⟩
 | m + 1, n + 1, s, i, p, k, h, hi, hs, hk, hp, hq => by
  unfold gl_dz9_1
  rw [if_pos (by simp; omega), wrap_id (n := i - 1) (by omega) (by omega)]
  have hs1 : s.length ≤ 20 + k := hs.1
  have step : ∀ (f : Feat) (p1 : Int), bF (k + 1) f → p ≤ p1 → p1 ≤ p + 50 → ∃ o s' p', gf_dt9 s f = some o ∧ gl_dz9_1 a n o (i - 1) p1 = some (s', p') ∧ p ≤ p' ∧ p' ≤ p + 50 * (m + 1) ∧ bS (k + (m + 1)) s' := fun f p1 hf q1 q2 => by
   obtain ⟨o, o1, o2, o3⟩ := dr_l3Put (s := s) (f := f) (by omega)
   obtain ⟨s', p', g1, g2, g3, g4⟩ := l4Near_loop a hb m n o (i - 1) p1 (k + 1) (by omega) (by omega) ⟨by omega, fun t ht => by
    rcases o3 t ht with h | h
    ·exact bF_up (hs.2 t h)
    ·subst h; exact hf⟩ (by omega) (by omega) (by omega)
   exact ⟨o, s', p', o1, g1, by omega, by omega, by rw [show k + (m + 1) = k + 1 + m by omega]; exact g4⟩
  obtain ⟨id, p1, h1, a1, b1, c1⟩ := dr_l2Id a.b p hb hp (by omega)
  obtain ⟨v, h2, hv⟩ := dr_l3Find (s := s) (id := id) (by omega)
  rw [h1, Option.bind_some]
  simp only
  rw [h2, Option.bind_some]
  by_cases hneg : v < 0
  ·rw [if_pos (by simpa using hneg)]
   obtain ⟨f, p2, h3, a3, b3, f1, f2, f3, f4⟩ := dr_l2Feat c1 a.b p1 hb (by omega) (by omega)
   simp only at h3
   obtain ⟨o, s', p', e1, e2, e3, e4, e5⟩ := step f p2 ⟨f1, by omega, by omega, f4⟩ (by omega) (by omega)
   simp only [h3, Option.bind_some, e1]
   exact ⟨s', p', e2, e3, by omega, e5⟩
  ·rw [if_neg (by simpa using hneg)]
   have hv := hv.resolve_left hneg
   obtain ⟨c, p2, h3, a3, b3, _⟩ := dr_pick (n := 4) a.b p1 hb (by omega) (by omega)
   simp only at h3
   rw [h3, Option.bind_some]
   simp only
   obtain ⟨f, hf⟩ := getI (xs := s) (i := v.toNat) (by omega)
   have hf' : idx s v = some f := by rw [idx_int hv.1]; exact hf
   have hbf := hs.2 f (List.mem_of_getElem? hf)
   by_cases c0 : (c == 0) = true
   ·rw [if_pos c0]
    obtain ⟨o, o1, o2, o3⟩ := dr_l3Cut (s := s) (id := id) (by omega)
    rw [o1, Option.bind_some]
    obtain ⟨s', p', g1, g2, g3, g4⟩ := l4Near_loop a hb m n o (i - 1) p2 (k + 1) (by omega) (by omega) ⟨by omega, fun t ht => bF_up (hs.2 t (o3 t ht))⟩ (by omega) (by omega) (by omega)
    exact ⟨s', p', g1, by omega, by omega, by rw [show k + (m + 1) = k + 1 + m by omega]; exact g4⟩
   rw [if_neg c0]
   obtain ⟨c2, p3, h4, a4, b4, _⟩ := dr_pick (n := 2) a.b p2 hb (by omega) (by omega)
   simp only at h4
   rw [h4, Option.bind_some]
   simp only
   have hcp : gf_dh9 f = some f := s_l2Copy (by have := bF_w hbf (by omega); omega)
   by_cases c1' : (c2 == 0) = true
   ·rw [if_pos c1']
    obtain ⟨x, p4, h5, a5, b5, x1⟩ := dr_l2Key a.b p3 hb (by omega) (by omega)
    obtain ⟨y, p5, h6, a6, b6, y1⟩ := dr_l2Val a.b p4 hb (by omega) (by omega)
    obtain ⟨ts, t1, t2, t3⟩ := dr_l2Put (s := f.tags) (a := x) (b := y) (by have := hbf.2.2.1; omega)
    obtain ⟨o, s', p', e1, e2, e3, e4, e5⟩ := step ⟨f.id, f.shape, ts⟩ p5 ⟨hbf.1, by have := hbf.2.1; simp only; omega, by have := hbf.2.2.1; simp only; omega, fun t ht => by
     rcases t3 t ht with h | h
     ·exact hbf.2.2.2 t h
     ·subst h; exact ⟨x1, y1⟩⟩ (by omega) (by omega)
    simp only [hf', Option.bind_some, hcp, h5, h6, t1, e1]
    exact ⟨s', p', e2, e3, by omega, e5⟩
   ·rw [if_neg c1']
    obtain ⟨z, p4, h5, a5, b5, z1⟩ := p_l4Bend (s := f.shape) (k := k) hbf.2.1 (by omega) a.b p3 hb (by omega) (by omega)
    simp only at h5
    obtain ⟨o, s', p', e1, e2, e3, e4, e5⟩ := step ⟨f.id, z, f.tags⟩ p4 ⟨hbf.1, z1, by have := hbf.2.2.1; simp only; omega, hbf.2.2.2⟩ (by omega) (by omega)
    simp only [hf', Option.bind_some, hcp]
    rw [h5]
    simp only [Option.bind_some, e1]
    exact ⟨s', p', e2, e3, by omega, e5⟩
theorem dr_l4Near {s : List Feat} (hs : bS 0 s) : Drw (fun r => gf_dz9 r s) 151 fun o => bS 0 o := fun b p hb h0 hp => by
 obtain ⟨c, p1, h1, a1, b1, c1, c2⟩ := dr_pick (n := 3) b p hb h0 (by omega)
 have c2 := c2 (by omega)
 simp only [gf_dz9]
 simp only at h1
 rw [h1, Option.bind_some]
 simp only
 rw [wrap_id (by omega) (by omega)]
 obtain ⟨o, p2, h2, a2, b2, d2⟩ := l4Near_loop ⟨b, p⟩ hb (1 + c).toNat rounds s (1 + c) p1 0 (by unfold rounds; omega) (by omega) hs (by omega) (by omega) (by omega)
 have hw : bS 3 o := by
  have h3 : o.length ≤ 20 + (0 + (1 + c).toNat) := d2.1
  exact ⟨by omega, fun f hf => by
   obtain ⟨q1, q2, q3, q4⟩ := d2.2 f hf
   exact ⟨q1, by omega, by omega, q4⟩⟩
 rw [h2, Option.bind_some, s_SheetOk (by have := bS_w hw (by omega); simp only; omega), Option.bind_some]
 by_cases ho : mSheet o = true
 ·simp only [ho]
  exact ⟨o, p2, rfl, by omega, by omega, mSheet_bS (fun f hf => (d2.2 f hf).1.2) ho⟩
 ·rw [Bool.not_eq_true] at ho
  simp only [ho]
  exact ⟨s, p2, rfl, by omega, by omega, hs⟩
def nm3 : List Str := [(⟨#[109, 97, 105, 110]⟩ : Str), (⟨#[97, 110, 110]⟩ : Str), (⟨#[98, 111, 98]⟩ : Str)]
theorem nm3_size {s : Str} (h : s ∈ nm3) : s.size ≤ 7 := (by decide : ∀ y ∈ nm3, y.size ≤ 7) s h
def bC0 (c : Commit) : Prop := c.up.length ≤ 3 ∧ bS 0 c.sheet ∧ c.note.size ≤ 7
def bC (c : Commit) : Prop := c.up.length ≤ 3 ∧ bS 0 c.sheet ∧ nt c.note
def bR (r : Repo) : Prop := (1 ≤ r.commits.length ∧ r.commits.length ≤ 12) ∧ (1 ≤ r.heads.length ∧ r.heads.length ≤ 5) ∧ (∀ c ∈ r.commits, bC c) ∧ ∀ h ∈ r.heads, h.name ∈ nm3
def gR (r : Repo) : Prop := bR r ∧ r.heads.length ≤ 4 ∧ (∀ h ∈ r.heads, 0 ≤ h.at_ ∧ h.at_ < (r.commits.length : Int)) ∧ ∀ c ∈ r.commits, c.up.length ≤ 2
theorem bC0_w {c : Commit} (h : bC0 c) : wCommit c ≤ 10020 := by
 obtain ⟨h1, h2, h3⟩ := h
 have := bS_w h2 (by omega)
 unfold wCommit
 simp only [wL, sum_w0] at this ⊢
 omega
theorem bC_w {c : Commit} (h : bC c) : wCommit c ≤ 10020 := bC0_w ⟨h.1, h.2.1, h.2.2.1⟩
theorem bR_w {r : Repo} (h : bR r) : wRepo r ≤ 200000 := by
 obtain ⟨h1, h2, h3, h4⟩ := h
 have e1 := sum_le2 (w := wCommit) (n := 10020) (xs := r.commits) fun c hc => bC_w (h3 c hc)
 have e2 := sum_le2 (w := wHead) (n := 7) (xs := r.heads) fun c hc => by have := nm3_size (h4 c hc); unfold wHead; omega
 unfold wRepo wL
 omega
theorem dr_l7Add {x : Repo} {k : Int} {c : Commit} (hx : gR x) (hk0 : 0 ≤ k) (hk : k < x.heads.length) (hc : bC c) (hc2 : c.up.length ≤ 2) (hl : x.commits.length < 12) : ∃ y, gf_ee9 x k c = some y ∧ gR y := by
 have hw := bR_w hx.1
 obtain ⟨⟨⟨g1, g2⟩, ⟨g3, g4⟩, g5, g6⟩, g7, g8, g9⟩ := hx
 unfold gf_ee9
 rw [s_l7Find (by unfold wRepo at hw; omega), Option.bind_some]
 obtain ⟨h, hh⟩ := getI (xs := x.heads) (i := k.toNat) (by omega)
 have hh' : idx x.heads k = some h := by rw [idx_int hk0]; exact hh
 have hn := g6 h (List.mem_of_getElem? hh)
 have set_ok : ∀ (m : Int) (z : Head), z ∈ x.heads.set k.toNat ⟨h.name, m⟩ → z ∈ x.heads ∨ z = ⟨h.name, m⟩ := fun m z hz => List.mem_or_eq_of_mem_set hz
 rcases fst_range (p := fun y : Commit => decide (y = c)) (l := x.commits) (k := 0) with hf | hf
 ·have e : mFind x.commits c = -1 := hf
  rw [e, if_pos (by decide), s_l7One (by have := bC_w hc; omega), Option.bind_some, if_pos (fits_small (by simp; omega)), hh', Option.bind_some]
  refine ⟨_, rfl, ⟨⟨by simp, by simp; omega⟩, ⟨by simp; omega, by simp; omega⟩, fun d hd => ?_, fun z hz => ?_⟩, by simp; omega, fun z hz => ?_, fun d hd => by
   rcases List.mem_append.1 hd with h | h
   ·exact g9 d h
   ·simp only [List.mem_singleton] at h; subst h; exact hc2⟩
  ·rcases List.mem_append.1 hd with h | h
   ·exact g5 d h
   ·simp only [List.mem_singleton] at h; subst h; exact hc
  ·rcases set_ok _ z hz with h | h
   ·exact g6 z h
   ·subst h; exact hn
  ·rcases set_ok _ z hz with h | h
   ·have := g8 z h; simp only [List.length_append, List.length_singleton]; omega
   ·subst h; simp only [List.length_append, List.length_singleton]; omega
 ·have e : mFind x.commits c = fstFrom (fun y : Commit => decide (y = c)) x.commits 0 := rfl
  rw [← e] at hf
  rw [if_neg (by simp; omega), hh', Option.bind_some]
  refine ⟨_, rfl, ⟨⟨g1, g2⟩, ⟨by simp; omega, by simp; omega⟩, g5, fun z hz => ?_⟩, by simp; omega, fun z hz => ?_, g9⟩
  ·rcases set_ok _ z hz with h | h
   ·exact g6 z h
   ·subst h; exact hn
  ·rcases set_ok _ z hz with h | h
   ·exact g8 z h
   ·subst h; simp only; omega
theorem mHead_range {hs : List Head} {n : Str} : mHead hs n < 0 ∨ 0 ≤ mHead hs n ∧ mHead hs n < hs.length := by
 rcases fst_range (p := fun y : Head => decide (y.name = n)) (l := hs) (k := 0) with h | h
 ·left
  have e : mHead hs n = -1 := h
  omega
 ·right
  have e : mHead hs n = fstFrom (fun y : Head => decide (y.name = n)) hs 0 := rfl
  rw [← e] at h
  simpa using h
theorem mBranch_g {r : Repo} {n f : Str} (h : gR r) (hn : n ∈ nm3) (hl : 0 < (mBranch r n f).1.heads.length) : gR (mBranch r n f).1 := by
 unfold mBranch at hl ⊢
 split
 ·rename_i h0
  rw [if_pos h0] at hl
  split
  ·exact h
  ·rename_i h1
   rw [if_neg h1] at hl
   split
   ·exact h
   ·rename_i h2
    rw [if_neg h2] at hl
    obtain ⟨⟨⟨g1, g2⟩, ⟨g3, g4⟩, g5, g6⟩, g7, g8, g9⟩ := h
    have hm := mHead_range (hs := r.heads) (n := f)
    obtain ⟨z, hz⟩ := getI (xs := r.heads) (i := (mHead r.heads f).toNat) (by omega)
    have hz' : idx r.heads (mHead r.heads f) = some z := by rw [idx_int (by omega)]; exact hz
    rw [hz']
    have hz8 := g8 z (List.mem_of_getElem? hz)
    refine ⟨⟨⟨g1, g2⟩, ⟨by simp, by simp; omega⟩, g5, fun y hy => ?_⟩, by simp; omega, fun y hy => ?_, g9⟩
    ·rcases List.mem_append.1 hy with h | h
     ·exact g6 y h
     ·simp only [List.mem_singleton] at h; subst h; exact hn
    ·rcases List.mem_append.1 hy with h | h
     ·exact g8 y h
     ·simp only [List.mem_singleton] at h; subst h; exact hz8
 ·rename_i h0
  rw [if_neg h0] at hl
  exact absurd hl (by decide)
theorem dr_l7Grow {x : Repo} (hx : gR x) : Drw (fun r => gf_ei9 r x) 160 fun o => ∀ y, o = some y → gR y := fun b p hb h0 hp => by
 have hw := bR_w hx.1
 have hx' := hx
 obtain ⟨⟨⟨g1, g2⟩, ⟨g3, g4⟩, g5, g6⟩, g7, g8, g9⟩ := hx
 obtain ⟨nm, p1, h1, a1, b1, c1⟩ := dr_l7Name b p hb h0 (by omega)
 simp only [gf_ei9]
 rw [h1, Option.bind_some]
 simp only
 rw [s_l7Head (by omega), Option.bind_some]
 have hm := mHead_range (hs := x.heads) (n := nm)
 by_cases hneg : mHead x.heads nm < 0
 ·rw [if_pos (by simpa using hneg)]
  obtain ⟨k, p2, h2, a2, b2, k1, k2⟩ := dr_pick (n := (x.heads.length : Int)) b p1 hb (by omega) (by omega)
  have k2 := k2 (by omega)
  simp only at h2
  obtain ⟨z, hz⟩ := getI (xs := x.heads) (i := k.toNat) (by omega)
  have hz' : idx x.heads k = some z := by rw [idx_int k1]; exact hz
  rw [h2, Option.bind_some]
  simp only
  rw [hz', Option.bind_some, s_RepoBranch (by omega) (by have := nm3_size c1; omega), Option.bind_some]
  by_cases hl : 0 < (mBranch x nm z.name).1.heads.length
  ·rw [if_pos (by simpa using hl)]
   exact ⟨_, p2, rfl, by omega, by omega, fun y hy => by cases hy; exact mBranch_g hx' c1 hl⟩
  ·rw [if_neg (by simpa using hl)]
   exact ⟨_, p2, rfl, by omega, by omega, fun y hy => by cases hy⟩
 ·rw [if_neg (by simpa using hneg)]
  have hm := hm.resolve_left hneg
  obtain ⟨z, hz⟩ := getI (xs := x.heads) (i := (mHead x.heads nm).toNat) (by omega)
  have hz' : idx x.heads (mHead x.heads nm) = some z := by rw [idx_int hm.1]; exact hz
  have hz8 := g8 z (List.mem_of_getElem? hz)
  obtain ⟨cm, hcm⟩ := getI (xs := x.commits) (i := z.at_.toNat) (by omega)
  have hcm' : idx x.commits z.at_ = some cm := by rw [idx_int hz8.1]; exact hcm
  have hcb := g5 cm (List.mem_of_getElem? hcm)
  obtain ⟨sh, p2, h2, a2, b2, c2⟩ := dr_l4Near hcb.2.1 b p1 hb (by omega) (by omega)
  obtain ⟨nt, p3, h3, a3, b3, c3⟩ := dr_l7Note b p2 hb (by omega) (by omega)
  obtain ⟨k, p4, h4, a4, b4, k1, k2⟩ := dr_pick (n := (x.heads.length : Int)) b p3 hb (by omega) (by omega)
  have k2 := k2 (by omega)
  simp only at h2 h3 h4
  obtain ⟨y, hy⟩ := getI (xs := x.heads) (i := k.toNat) (by omega)
  have hy' : idx x.heads k = some y := by rw [idx_int k1]; exact hy
  rw [hz', Option.bind_some, hcm', Option.bind_some, h2, Option.bind_some]
  simp only
  rw [h3, Option.bind_some, Option.bind_some]
  simp only
  rw [h4, Option.bind_some]
  simp only
  rw [hy', Option.bind_some]
  obtain ⟨w, p5, h5, a5, b5, _⟩ := dr_pick (n := 4) b p4 hb (by omega) (by omega)
  simp only at h5
  have key : ∃ up p6, ((if (y.at_ != z.at_) = true then ((gf_cw9 (⟨b, p4⟩ : Rd) 4).bind fun x49 => if (x49.1 == 0) = true then (some ([z.at_, y.at_], x49.2)) else (some ([z.at_], x49.2))) else (some ([z.at_], p4)) : Option ((List Int) × Int))) = some (up, p6) ∧ up.length ≤ 2 ∧ p4 ≤ p6 ∧ p6 ≤ p4 + 1 := by
   split
   ·rw [h5, Option.bind_some]
    simp only
    split
    ·exact ⟨_, _, rfl, by simp, a5, b5⟩
    ·exact ⟨_, _, rfl, by simp, a5, b5⟩
   ·exact ⟨_, _, rfl, by simp, by omega, by omega⟩
  obtain ⟨up, p6, k1', k2', k3', k4'⟩ := key
  rw [k1', Option.bind_some]
  by_cases hl : 12 ≤ x.commits.length
  ·rw [if_pos (by simp; omega)]
   exact ⟨_, p6, rfl, by omega, by omega, fun y hy => by cases hy⟩
  ·rw [if_neg (by simp; omega), s_l7Copy (by omega), Option.bind_some]
   obtain ⟨o, o1, o2⟩ := dr_l7Add (k := mHead x.heads nm) (c := ⟨up, sh, nt⟩) hx' hm.1 hm.2 ⟨by simp only; omega, c2, c3⟩ k2' (by omega)
   rw [o1]
   exact ⟨_, p6, rfl, by omega, by omega, fun y hy => by cases hy; exact o2⟩
theorem l7Repo_loop (a : Rd) (hb : a.b.length ≤ 2000) : ∀ (m n : Nat) (i p : Int) (cs : List Commit) (hs : List Head), m < n → i = m → gR ⟨cs, hs⟩ → 0 ≤ p → p + 160 * m ≤ 100000 → ∃ p' cs' hs', gl_eo9_1 a n i p cs hs = some (p', cs', hs') ∧ p ≤ p' ∧ p' ≤ p + 160 * m ∧ gR ⟨cs', hs'⟩
 | _, 0, _, _, _, _, h, _, _, _, _ => by omega
 | 0, n + 1, i, p, cs, hs, h, hi, hg, hp, hq => by
  unfold gl_eo9_1
  rw [if_neg (by simp; omega)]
  exact ⟨p, cs, hs, rfl, by omega, by omega, hg⟩
 | m + 1, n + 1, i, p, cs, hs, h, hi, hg, hp, hq => by
  unfold gl_eo9_1
  rw [if_pos (by simp; omega), wrap_id (n := i - 1) (by omega) (by omega)]
  obtain ⟨o, p1, h1, a1, b1, c1⟩ := dr_l7Grow hg a.b p hb hp (by omega)
  simp only at h1
  rw [h1, Option.bind_some]
  cases o with
  | none =>
   obtain ⟨p', cs', hs', e1, e2, e3, e4⟩ := l7Repo_loop a hb m n (i - 1) p1 cs hs (by omega) (by omega) hg (by omega) (by omega)
   exact ⟨p', cs', hs', e1, by omega, by omega, e4⟩
  | some y =>
   obtain ⟨p', cs', hs', e1, e2, e3, e4⟩ := l7Repo_loop a hb m n (i - 1) p1 y.commits y.heads (by omega) (by omega) (c1 y rfl) (by omega) (by omega)
   exact ⟨p', cs', hs', e1, by omega, by omega, e4⟩
theorem dr_l7Repo : Drw gf_eo9 1500 gR := fun b p hb h0 hp => by
 obtain ⟨s, p1, h1, a1, b1, s1, s2⟩ := dr_l3Sheet b p hb h0 (by omega)
 obtain ⟨k, p2, h2, a2, b2, k1, k2⟩ := dr_pick (n := 7) b p1 hb (by omega) (by omega)
 have k2 := k2 (by omega)
 have hnew : gf_ck9 (⟨#[109, 97, 105, 110]⟩ : Str) = some (⟨[⟨[], [], (⟨#[98, 101, 103, 105, 110]⟩ : Str)⟩], [⟨(⟨#[109, 97, 105, 110]⟩ : Str), 0⟩]⟩, true) := by
  unfold gf_ck9
  rw [s_WordOk (by decide), Option.bind_some, (by decide : mWord (⟨#[109, 97, 105, 110]⟩ : Str) = true)]
  rfl
 simp only at h2
 unfold gf_eo9
 rw [hnew, Option.bind_some, h1, Option.bind_some]
 simp only
 rw [show idx [(⟨[], [], (⟨#[98, 101, 103, 105, 110]⟩ : Str)⟩ : Commit)] 0 = some ⟨[], [], (⟨#[98, 101, 103, 105, 110]⟩ : Str)⟩ from rfl, Option.bind_some, h2, Option.bind_some]
 simp only
 rw [wrap_id (n := 2 + k) (by omega) (by omega)]
 have hg : gR ⟨List.set [(⟨[], [], (⟨#[98, 101, 103, 105, 110]⟩ : Str)⟩ : Commit)] (0 : Int).toNat ⟨[], s, (⟨#[98, 101, 103, 105, 110]⟩ : Str)⟩, [⟨(⟨#[109, 97, 105, 110]⟩ : Str), 0⟩]⟩ := by
  refine ⟨⟨⟨by simp, by simp⟩, ⟨by simp, by simp⟩, fun c hc => ?_, fun h hh => ?_⟩, by simp, fun h hh => ?_, fun c hc => ?_⟩
  ·have : c = ⟨[], s, (⟨#[98, 101, 103, 105, 110]⟩ : Str)⟩ := by simpa using hc
   subst this
   exact ⟨by simp, ⟨by simp only; omega, s2⟩, nt_of (s := ⟨#[98, 101, 103, 105, 110]⟩) (by decide)⟩
  ·simp only [List.mem_singleton] at hh; subst hh; exact (List.mem_cons_self : (⟨#[109, 97, 105, 110]⟩ : Str) ∈ nm3)
  ·simp only [List.mem_singleton] at hh; subst hh; simp
  ·have : c = ⟨[], s, (⟨#[98, 101, 103, 105, 110]⟩ : Str)⟩ := by simpa using hc
   subst this
   simp
 obtain ⟨p3, cs, hs, h3, a3, b3, c3⟩ := l7Repo_loop ⟨b, p⟩ hb (2 + k).toNat rounds (2 + k) p2 _ _ (by unfold rounds; omega) (by omega) hg (by omega) (by omega)
 rw [h3, Option.bind_some]
 simp only
 obtain ⟨w, p4, h4, a4, b4, _⟩ := dr_pick (n := 4) b p3 hb (by omega) (by omega)
 simp only at h4
 rw [h4, Option.bind_some]
 simp only
 split
 ·by_cases hl : 1 < hs.length
  ·rw [if_pos (by simp; omega), wrap_pred (by omega) (by have := c3.2.1; simp only at this; omega)]
   unfold slc
   rw [if_pos ⟨by omega, by omega, by omega⟩]
   obtain ⟨⟨g1, ⟨g3, g4⟩, g5, g6⟩, g7, g8, g9⟩ := c3
   simp only at g3 g4 g7 g8 g6
   refine ⟨_, p4, rfl, by omega, by omega, ⟨g1, ⟨by simp; omega, by simp; omega⟩, g5, fun h hh => ?_⟩, by simp; omega, fun h hh => ?_, g9⟩
   ·exact g6 h (List.mem_of_mem_take (List.mem_of_mem_drop hh))
   ·exact g8 h (List.mem_of_mem_take (List.mem_of_mem_drop hh))
  ·rw [if_neg (by simp; omega)]
   exact ⟨_, p4, rfl, by omega, by omega, c3⟩
 ·exact ⟨_, p4, rfl, by omega, by omega, c3⟩
theorem mem_setC {cs : List Commit} {i : Nat} {c y : Commit} (h : y ∈ cs.set i c) : y ∈ cs ∨ y = c := List.mem_or_eq_of_mem_set h
theorem bR_setC {r : Repo} {i : Nat} {c : Commit} (h : bR r) (hc : bC c) : bR ⟨r.commits.set i c, r.heads⟩ := by
 obtain ⟨g1, g2, g3, g4⟩ := h
 refine ⟨by simpa using g1, g2, fun y hy => ?_, g4⟩
 rcases mem_setC hy with h | h
 ·exact g3 y h
 ·subst h; exact hc
theorem dr_l7Bent : Drw gf_ef9 1800 bR := fun b p hb h0 hp => by
 obtain ⟨r, p1, h1, a1, b1, hg⟩ := dr_l7Repo b p hb h0 (by omega)
 have hr := hg.1
 have hr' := hr
 obtain ⟨⟨g1, g2⟩, ⟨g3, g4⟩, g5, g6⟩ := hr
 have g7 := hg.2.1
 obtain ⟨k, p2, h2, a2, b2, k1, k2⟩ := dr_pick (n := (r.commits.length : Int)) b p1 hb (by omega) (by omega)
 have k2 := k2 (by omega)
 obtain ⟨c, p3, h3, a3, b3, _⟩ := dr_pick (n := 48) b p2 hb (by omega) (by omega)
 simp only at h2 h3
 unfold gf_ef9
 rw [h1, Option.bind_some]
 simp only
 rw [h2, Option.bind_some]
 simp only
 rw [h3, Option.bind_some, Option.bind_some]
 simp only
 obtain ⟨y, hy⟩ := getI (xs := r.commits) (i := k.toNat) (by omega)
 have hy' : idx r.commits k = some y := by rw [idx_int k1]; exact hy
 have hyb := g5 y (List.mem_of_getElem? hy)
 obtain ⟨z, hz⟩ := getI (xs := r.heads) (i := 0) (by omega)
 have hz' : idx r.heads 0 = some z := by rw [show (0 : Int) = ((0 : Nat) : Int) from rfl, idx_nat]; exact hz
 have hzb := g6 z (List.mem_of_getElem? hz)
 by_cases c0 : (c == 0) = true
 ·rw [if_pos c0]
  obtain ⟨x, p4, h4, a4, b4, _⟩ := dr_num (l := [-1, (r.commits.length : Int)]) (by simp) b p3 hb (by omega) (by omega)
  simp only at h4
  rw [h4, Option.bind_some, hz']
  refine ⟨_, p4, rfl, by omega, by omega, ⟨g1, g2⟩, ⟨by simp; omega, by simp; omega⟩, g5, fun h hh => ?_⟩
  rcases List.mem_or_eq_of_mem_set hh with h' | h'
  ·exact g6 h h'
  ·subst h'; exact hzb
 rw [if_neg c0]
 by_cases c1 : (c == 1) = true
 ·rw [if_pos c1, hy', Option.bind_some]
  have hup : y.up.length ≤ 2 := hg.2.2.2 y (List.mem_of_getElem? hy)
  rw [if_pos (fits_small (by simp; omega))]
  exact ⟨_, p3, rfl, by omega, by omega, bR_setC hr' ⟨by simp; omega, hyb.2.1, hyb.2.2⟩⟩
 rw [if_neg c1]
 by_cases c2 : (c == 2) = true
 ·rw [if_pos c2]
  obtain ⟨x, p4, h4, a4, b4, hx⟩ := dr_l3Bent b p3 hb (by omega) (by omega)
  rw [h4, Option.bind_some, hy']
  exact ⟨_, p4, rfl, by omega, by omega, bR_setC hr' ⟨hyb.1, hx, hyb.2.2⟩⟩
 rw [if_neg c2]
 by_cases c3 : (c == 3) = true
 ·rw [if_pos c3, hy']
  exact ⟨_, p3, rfl, by omega, by omega, bR_setC hr' ⟨hyb.1, hyb.2.1, nt_of (s := ⟨#[]⟩) (by decide)⟩⟩
 rw [if_neg c3]
 by_cases c4 : (c == 4) = true
 ·rw [if_pos c4, hz', Option.bind_some, if_pos (fits_small (by simp; omega))]
  refine ⟨_, p3, rfl, by omega, by omega, ⟨g1, g2⟩, ⟨by simp, by simp; omega⟩, g5, fun h hh => ?_⟩
  rcases List.mem_append.1 hh with h' | h'
  ·exact g6 h h'
  ·simp only [List.mem_singleton] at h'; subst h'; exact hzb
 rw [if_neg c4]
 by_cases c5 : (c == 5) = true
 ·rw [if_pos c5, hy']
  exact ⟨_, p3, rfl, by omega, by omega, bR_setC hr' ⟨by simp, hyb.2.1, hyb.2.2⟩⟩
 rw [if_neg c5]
 exact ⟨r, p3, rfl, by omega, by omega, hr'⟩
theorem dr_open (code : List UInt8) : ∃ b, gf_ct9 code = some ⟨b, 0⟩ ∧ b.length ≤ 2000 := by
 unfold gf_ct9
 split
 ·rename_i h
  have h' : (code.length : Int) > 2000 := by simpa using h
  unfold slc
  rw [if_pos ⟨by omega, by omega, by omega⟩]
  exact ⟨_, rfl, by simp; omega⟩
 ·rename_i h
  have h' : ¬ (code.length : Int) > 2000 := by simpa using h
  exact ⟨code, rfl, by omega⟩
theorem headb (x y : Head) : ((x.name == y.name) && ((x.at_ == y.at_) && true)) = decide (x = y) := by
 obtain ⟨a, b⟩ := x; obtain ⟨c, d⟩ := y
 simp only [strB]
 by_cases h1 : a = c <;> by_cases h2 : b = d <;> simp [h1, h2]
theorem i_EqHead {a b : List Head} (h : a.length ≤ 1048576) : gf_bp9 a b = some (decide (a = b)) := eqd_list (gl := gl_bp9_1) (ok := fun _ => True) (fun _ _ => rfl) (fun a x l k y _ hy => by
 simp only [gl_bp9_1, idx_nat, hy, Option.bind_some, headb]
 by_cases e : x = y <;> simp [e]) (fun _ _ => rfl) h (fun _ _ => trivial)
theorem i_EqCommit {a b : List Commit} (h : wL wCommit a ≤ 1048576) : gf_bm9 a b = some (decide (a = b)) := eqd_list (gl := gl_bm9_1) (ok := fun x => wCommit x ≤ 1048576) (fun _ _ => rfl) (fun a x l k y hx hy => by
 simp only [gl_bm9_1, idx_nat, hy, Option.bind_some, i_sameCommit hx]
 by_cases e : x = y <;> simp [e]) (fun _ _ => rfl) (by unfold wL at h; omega) (fun x hx => by have := sum_mem (w := wCommit) hx; unfold wL at h; omega)
theorem i_RepoSame {a b : Repo} (h : wRepo a ≤ 1048576) : gf_al9 a b = some (decide (a = b)) := by
 unfold wRepo at h
 unfold gf_al9
 rw [i_EqCommit (by omega), i_EqHead (by unfold wL at h; omega)]
 obtain ⟨i, s⟩ := a; obtain ⟨i2, s2⟩ := b
 by_cases h1 : i = i2 <;> by_cases h2 : s = s2 <;> simp [h1, h2]
theorem trueAt_lt {m : List Bool} {k : Nat} (h : trueAt m k = true) : k < m.length := by
 unfold trueAt at h
 rcases Nat.lt_or_ge k m.length with h1 | h1
 ·exact h1
 ·rw [List.getElem?_eq_none h1] at h
  cases h
theorem cnt_mono {m : List Bool} {a : Nat} : ∀ {b : Nat}, a ≤ b → cnt m a ≤ cnt m b
 | 0, h => by
  have : a = 0 := by omega
  subst this; exact Nat.le_refl _
 | b + 1, h => by
  rcases Nat.eq_or_lt_of_le h with rfl | h
  ·exact Nat.le_refl _
  ·have := cnt_mono (m := m) (a := a) (b := b) (by omega)
   simp only [cnt]
   omega
theorem sweepC_len {m : List Bool} : ∀ {l : List Commit} {k : Nat}, (sweepC m l k).length + cnt m k = cnt m (k + l.length)
 | [], k => by simp [sweepC]
 | x :: l, k => by
  have ih := sweepC_len (m := m) (l := l) (k := k + 1)
  simp only [cnt] at ih
  rw [List.length_cons, show k + (l.length + 1) = k + 1 + l.length by omega]
  simp only [sweepC]
  split
  ·rename_i h
   rw [if_pos h] at ih
   simp only [List.length_cons]
   omega
  ·rename_i h
   rw [if_neg h] at ih
   omega
theorem sweepC_get {m : List Bool} : ∀ {l : List Commit} {k j : Nat} {x : Commit}, l[j]? = some x → trueAt m (k + j) = true → (sweepC m l k)[cnt m (k + j) - cnt m k]? = some (newUp m x)
 | [], k, j, x, h, _ => by simp at h
 | y :: l, k, 0, x, h, ht => by
  simp only [List.getElem?_cons_zero, Option.some.injEq] at h
  subst h
  simp only [Nat.add_zero] at ht
  simp [sweepC, ht]
 | y :: l, k, j + 1, x, h, ht => by
  rw [show k + (j + 1) = k + 1 + j by omega] at ht ⊢
  have ih := sweepC_get (m := m) (l := l) (k := k + 1) (j := j) (by simpa using h) ht
  have hm := cnt_mono (m := m) (a := k + 1) (b := k + 1 + j) (by omega)
  simp only [cnt] at ih hm
  simp only [sweepC]
  split
  ·rename_i hk
   rw [if_pos hk] at ih hm
   rw [show cnt m (k + 1 + j) - cnt m k = cnt m (k + 1 + j) - (cnt m k + 1) + 1 by omega, List.getElem?_cons_succ]
   exact ih
  ·rename_i hk
   rw [if_neg hk] at ih
   exact ih
theorem cnt_hit {m : List Bool} : ∀ {n j : Nat}, j < cnt m n → ∃ k, k < n ∧ trueAt m k = true ∧ cnt m k = j
 | 0, j, h => by simp [cnt] at h
 | n + 1, j, h => by
  by_cases hn : j < cnt m n
  ·obtain ⟨k, h1, h2, h3⟩ := cnt_hit hn
   exact ⟨k, by omega, h2, h3⟩
  ·simp only [cnt] at h
   split at h
   ·rename_i ht
    exact ⟨n, by omega, ht, by omega⟩
   ·omega
structure Kept (cs : List Commit) (m : List Bool) : Prop where
 hist : Hist cs
 len : m.length = cs.length
 up : ∀ k x u, cs[k]? = some x → trueAt m k = true → u ∈ x.up → trueAt m u.toNat = true
section
variable {cs : List Commit} {m : List Bool}
theorem Kept.get (h : Kept cs m) {k : Nat} (hk : trueAt m k = true) : ∃ x, cs[k]? = some x ∧ (sweepC m cs 0)[cnt m k]? = some (newUp m x) := by
 obtain ⟨x, hx⟩ := getI (xs := cs) (i := k) (by rw [← h.len]; exact trueAt_lt hk)
 have := sweepC_get (m := m) (l := cs) (k := 0) (j := k) hx (by simpa using hk)
 simp only [Nat.zero_add, cnt, Nat.sub_zero] at this
 exact ⟨x, hx, this⟩
theorem Kept.tot (h : Kept cs m) : (sweepC m cs 0).length = cnt m cs.length := by
 have := sweepC_len (m := m) (l := cs) (k := 0)
 simp only [Nat.zero_add, cnt] at this
 exact this
theorem Kept.from (h : Kept cs m) {j : Nat} {y : Commit} (hy : (sweepC m cs 0)[j]? = some y) : ∃ k x, trueAt m k = true ∧ cnt m k = j ∧ cs[k]? = some x ∧ y = newUp m x := by
 have := get_lt hy
 rw [h.tot] at this
 obtain ⟨k, h1, h2, h3⟩ := cnt_hit this
 obtain ⟨x, h4, h5⟩ := h.get h2
 rw [h3, hy] at h5
 exact ⟨k, x, h2, h3, h4, Option.some.inj h5⟩
end
structure Added (r : Repo) (n t : Str) (s : List Feat) (i : Nat) (z : Head) (x : Commit) (q : Repo) (k : Nat) : Prop where
 repo : mRepo r = true
 sheet : mSheet s = true
 word : mWord t = true
 hd : mHead r.heads n = (i : Int)
 at_ : r.heads[i]? = some z
 name : z.name = n
 was : r.commits[z.at_.toNat]? = some x
 ge : 0 ≤ z.at_
 ne : x.sheet ≠ s
 eq : mAdd r n s t = (q, 0)
 heads : q.heads = r.heads.set i ⟨z.name, (k : Int)⟩
 comm : (q.commits = r.commits ∧ k < r.commits.length) ∨ (q.commits = r.commits ++ [⟨[z.at_], s, t⟩] ∧ k = r.commits.length ∧ r.commits.length < 14)
 get : q.commits[k]? = some ⟨[z.at_], s, t⟩
 repo' : mRepo q = true
section
variable {r q : Repo} {n t : Str} {s : List Feat} {i k : Nat} {z : Head} {x : Commit}
theorem Added.w (h : Added r n t s i z x q k) (hw : wRepo r ≤ 1000000) (hs : wL wFeat s ≤ 20000) (ht : t.size ≤ 7) : wRepo q ≤ wRepo r + 20010 := by
 have h1 := mAdd_w (r := r) (n := n) (t := t) (s := s)
 rw [h.eq] at h1
 simp only at h1
 omega
end
section
variable {r q : Repo} {n t : Str} {s : List Feat} {i k : Nat} {z : Head} {x : Commit}
end
def nF : Feat := ⟨⟨#[]⟩, ⟨0, []⟩, []⟩
theorem fst_find {α : Type} {p : α → Bool} : ∀ (l : List α) (k : Nat), (l.find? p = none ∧ fstFrom p l k = -1) ∨ ∃ j x, l.find? p = some x ∧ fstFrom p l k = ((k + j : Nat) : Int) ∧ l[j]? = some x ∧ p x = true
 | [], k => .inl ⟨rfl, rfl⟩
 | y :: l, k => by
  simp only [List.find?_cons, fstFrom]
  cases hp : p y
  ·rcases fst_find (p := p) l (k + 1) with ⟨h1, h2⟩ | ⟨j, x, h1, h2, h3, h4⟩
   ·exact .inl ⟨h1, by simpa using h2⟩
   ·exact .inr ⟨j + 1, x, h1, by simp only [h2]; simp; omega, h3, h4⟩
  ·exact .inr ⟨0, y, rfl, by simp, rfl, hp⟩
def mSide (s : List Feat) (id : Str) : Feat × Bool := match s.find? (fun f : Feat => decide (f.id = id)) with
 | some f => (f, true)
 | none => (nF, false)
theorem i_featAt {s : List Feat} {id : Str} (hl : s.length ≤ 1048576) : gf_az9 s id = some (fstFrom (fun f : Feat => decide (f.id = id)) s 0) := by
 unfold gf_az9 gf_bw9
 have h := loopF (gl := gl_bw9_1 id) (p := fun f : Feat => decide (f.id = id)) (ok := fun _ => True) (fun _ => rfl) (fun x l k _ => by simp only [gl_bw9_1, gf_ba9, seq_dec, Option.bind_some]) s 0 (fun _ _ => trivial)
 rw [if_pos (fits_small hl)]
 exact (congrArg (fun o => Option.bind o fun x2 => some x2) h)
theorem s_l3Find {s : List Feat} {id : Str} (hl : s.length ≤ 1048576) : gf_ds9 s id = some (fstFrom (fun f : Feat => decide (f.id = id)) s 0) := by
 unfold gf_ds9
 have h := loopF (gl := gl_ds9_1 id) (p := fun f : Feat => decide (f.id = id)) (ok := fun _ => True) (fun _ => rfl) (fun x l k _ => by simp only [gl_ds9_1, seq_dec]) s 0 (fun _ _ => trivial)
 rw [if_pos (fits_small hl)]
 exact h
theorem i_side {s : List Feat} {id : Str} (h : wL wFeat s ≤ 1048576) : gf_bf9 s id = some (mSide s id) := by
 have hl : s.length ≤ 1048576 := by unfold wL at h; omega
 unfold gf_bf9 mSide
 rw [i_featAt hl, Option.bind_some]
 rcases fst_find (p := fun f : Feat => decide (f.id = id)) s 0 with ⟨h1, h2⟩ | ⟨j, x, h1, h2, h3, h4⟩
 ·rw [h1, h2]; rfl
 ·have hx := sum_mem (w := wFeat) (List.mem_of_getElem? h3)
  rw [h1, h2, if_neg (by simp), idx_nat, Nat.zero_add, h3, Option.bind_some, i_cloneFeat (by unfold wL at h; omega)]
  rfl
theorem s_l4Side {s : List Feat} {id : Str} (h : wL wFeat s ≤ 1048576) : gf_ec9 s id = some (mSide s id) := by
 have hl : s.length ≤ 1048576 := by unfold wL at h; omega
 unfold gf_ec9 mSide
 rw [s_l3Find hl, Option.bind_some]
 rcases fst_find (p := fun f : Feat => decide (f.id = id)) s 0 with ⟨h1, h2⟩ | ⟨j, x, h1, h2, h3, h4⟩
 ·rw [h1, h2]; rfl
 ·have hx := sum_mem (w := wFeat) (List.mem_of_getElem? h3)
  rw [h1, h2, if_neg (by simp), idx_nat, Nat.zero_add, h3, Option.bind_some, s_l2Copy (by unfold wL at h; omega)]
  rfl
def mSideOk (id : Str) (had : Bool) (f : Feat) : Bool := if had = true then mFeat f && decide (f.id = id) else decide (f = nF)
def mOne (c : Change) : Bool := mWord c.id && (mSideOk c.id c.had c.was && (mSideOk c.id c.has c.now && !((c.had == c.has) && decide (c.was = c.now))))
def mDiff (d : List Change) : Bool := allFrom (fun c k => mOne c && (decide (k = 0) || mPrev Change.id d c k)) d 0 && decide (d.length ≤ 16)
theorem i_noFeat (f : Feat) : gf_bc9 f = some (decide (f = nF)) := by
 obtain ⟨i, ⟨k, p⟩, t⟩ := f
 unfold gf_bc9 nF
 simp only [seq_dec]
 by_cases h1 : i = ⟨#[]⟩
 ·by_cases h2 : k = 0
  ·cases p
   ·cases t
    ·simp [h1, h2]
    ·simp [h1, h2]; omega
   ·simp [h1, h2]; omega
  ·simp [h1, h2]
 ·simp [h1]
theorem i_sideOk {id : Str} {had : Bool} {f : Feat} (h : wFeat f ≤ 1048576) : gf_bg9 id had f = some (mSideOk id had f) := by
 unfold gf_bg9 mSideOk
 rw [i_noFeat, i_FeatOk h, seq_dec]
 cases had <;> cases mFeat f <;> simp
theorem i_Change_same {c : Change} (h : wChange c ≤ 1048576) : gf_aa9 c = some ((c.had == c.has) && decide (c.was = c.now)) := by
 unfold wChange at h
 unfold gf_aa9
 rw [i_FeatSame (by omega)]
 cases c.had <;> cases c.has <;> simp
theorem s_l4One {c : Change} (h : wChange c ≤ 1048576) : gf_eb9 c = some (mOne c) := by
 unfold wChange at h
 obtain ⟨id, had, was, has, now⟩ := c
 simp only at h
 unfold gf_eb9 mOne mSideOk
 simp only [s_WordOk (s := id) (by omega), s_FeatSame (a := was) (by omega), s_FeatSame (a := now) (by omega), s_FeatOk (f := was) (by omega), s_FeatOk (f := now) (by omega), seq_dec, Option.bind_some, show (⟨(⟨#[]⟩ : Str), ⟨0, []⟩, []⟩ : Feat) = nF from rfl]
 cases mWord id
 ·simp
 ·cases had <;> cases has
  ·by_cases h1 : was = nF <;> by_cases h2 : now = nF <;> simp [h1, h2]
  ·by_cases h1 : was = nF <;> cases mFeat now <;> by_cases h2 : now.id = id <;> simp [h1, h2]
  ·by_cases h1 : now = nF <;> cases mFeat was <;> by_cases h2 : was.id = id <;> simp [h1, h2]
  ·by_cases h0 : was = now
   ·simp [h0]
   ·cases mFeat was <;> cases mFeat now <;> by_cases h1 : was.id = id <;> by_cases h2 : now.id = id <;> simp [h0, h1, h2]
theorem s_DiffOk {d : List Change} (h : wL wChange d ≤ 1048576) : gf_cb9 d = some (mDiff d) := by
 have hlen : d.length ≤ 1048576 := by unfold wL at h; omega
 unfold gf_cb9 mDiff
 rw [if_pos (fits_small hlen), loopB (gl := gl_cb9_1 d) (p := fun c k => mOne c && (decide (k = 0) || mPrev Change.id d c k)) (xs := d) (fun _ => rfl) (fun x l k hd => ?_) d 0 rfl]
 ·rw [show decide ((d.length : Int) ≤ 16) = decide (d.length ≤ 16) from decI]
  exact endB
 ·have hx : x ∈ d := List.mem_of_getElem? (drop_get hd)
  have hs := sum_mem (w := wChange) hx
  unfold wL at h
  simp only [gl_cb9_1, s_l4One (c := x) (by omega), Option.bind_some, posI, slt_seq]
  rcases Nat.eq_zero_or_pos k with rfl | hk
  ·cases mOne x <;> simp
  ·obtain ⟨z, hz⟩ := drop_prev hd hk
   have hl := drop_len hd
   have hw := wrap_pred hk (by omega)
   rw [hw, idx_nat, hz]
   have hk' : ¬ k = 0 := by omega
   cases e : slt z.id x.id <;> cases mOne x <;> simp [hk, hk', hz, e, mPrev]
theorem i_DiffOk {d : List Change} (h : wL wChange d ≤ 1048576) : gf_ac9 d = some (mDiff d) := by
 have hlen : d.length ≤ 1048576 := by unfold wL at h; omega
 unfold gf_ac9 mDiff
 rw [if_pos (fits_small hlen), loopB (gl := gl_ac9_1 d) (p := fun c k => mOne c && (decide (k = 0) || mPrev Change.id d c k)) (xs := d) (fun _ => rfl) (fun x l k hd => ?_) d 0 rfl]
 ·rw [show decide ((d.length : Int) ≤ 16) = decide (d.length ≤ 16) from decI]
  exact endB
 ·have hx : x ∈ d := List.mem_of_getElem? (drop_get hd)
  have hs := sum_mem (w := wChange) hx
  unfold wL at h
  have h0 : wChange x ≤ 1048576 := by omega
  have e0 : wChange x = x.id.size + (wFeat x.was + (wFeat x.now + 0)) := rfl
  unfold mOne
  simp only [gl_ac9_1, i_WordOk (s := x.id) (by omega), i_sideOk (f := x.was) (by omega), i_sideOk (f := x.now) (by omega), i_Change_same h0, Option.bind_some, posI]
  generalize ((x.had == x.has) && decide (x.was = x.now)) = q
  rcases Nat.eq_zero_or_pos k with rfl | hk
  ·cases mWord x.id <;> cases mSideOk x.id x.had x.was <;> cases mSideOk x.id x.has x.now <;> cases q <;> simp
  ·obtain ⟨z, hz⟩ := drop_prev hd hk
   have hl := drop_len hd
   have hw := wrap_pred hk (by omega)
   rw [hw, idx_nat, hz]
   have hk' : ¬ k = 0 := by omega
   cases e : slt z.id x.id <;> cases mWord x.id <;> cases mSideOk x.id x.had x.was <;> cases mSideOk x.id x.has x.now <;> cases q <;> simp [hk, hk', hz, e, mPrev]
def mCutF (s : List Feat) (id : Str) : List Feat := s.filter fun y => !decide (y.id = id)
def mPut (f : Feat) : List Feat → List Feat
 | [] => [f]
 | x :: l => if slt x.id f.id = true then x :: mPut f l else f :: mCutF (x :: l) f.id
theorem slt_ne {a b : Str} (h : slt a b = true) : a ≠ b := fun e => by
 rw [e, slt_sw.irrefl] at h
 cases h
theorem mCutF_cons {x : Feat} {l : List Feat} {id : Str} : mCutF (x :: l) id = if x.id = id then mCutF l id else x :: mCutF l id := by
 unfold mCutF
 rw [List.filter_cons]
 by_cases h : x.id = id <;> simp [h]
theorem put_done {f : Feat} : ∀ (l : List Feat) (k : Nat) (v : List Feat), v.length + l.length ≤ 1048576 → gl_dt9_1 f l k true v = some (true, v ++ mCutF l f.id)
 | [], k, v, _ => by simp [gl_dt9_1, mCutF]
 | x :: l, k, v, h => by
  simp only [List.length_cons] at h
  simp only [gl_dt9_1, seq_dec, Bool.not_true, Bool.false_eq_true, if_false, Option.bind_some]
  rw [mCutF_cons]
  by_cases e : x.id = f.id
  ·rw [if_neg (by simp [e]), put_done l (k + 1) v (by omega), if_pos e]
  ·rw [if_pos (by simp [e]), if_pos (fits_small (by simp; omega)), put_done l (k + 1) _ (by simp; omega), if_neg e]
   simp
theorem put_todo {f : Feat} : ∀ (l : List Feat) (k : Nat) (v : List Feat), v.length + l.length + 1 ≤ 1048576 → ∃ d o, gl_dt9_1 f l k false v = some (d, o) ∧ (if d = true then o else o ++ [f]) = v ++ mPut f l
 | [], k, v, _ => ⟨false, v, rfl, by simp [mPut]⟩
 | x :: l, k, v, h => by
  simp only [List.length_cons] at h
  simp only [gl_dt9_1, seq_dec, Bool.not_false, if_true, mPut]
  by_cases e : slt x.id f.id = true
  ·have hn := slt_ne e
   obtain ⟨d, o, h1, h2⟩ := put_todo l (k + 1) (v ++ [x]) (by simp; omega)
   refine ⟨d, o, ?_, by rw [h2, if_pos e]; simp⟩
   rw [if_neg (by simp [e]), Option.bind_some]
   simp only
   rw [if_pos (by simp [hn]), if_pos (fits_small (by simp; omega)), h1]
  ·rw [if_pos (by simpa using e), if_pos (fits_small (by simp; omega)), Option.bind_some]
   simp only
   rw [if_neg e, mCutF_cons]
   by_cases e2 : x.id = f.id
   ·rw [if_neg (by simp [e2]), put_done l (k + 1) _ (by simp; omega), if_pos e2]
    exact ⟨true, _, rfl, by simp⟩
   ·rw [if_pos (by simp [e2]), if_pos (fits_small (by simp; omega)), put_done l (k + 1) _ (by simp; omega), if_neg e2]
    exact ⟨true, _, rfl, by simp⟩
theorem mPut_len {f : Feat} : ∀ (l : List Feat), (mPut f l).length ≤ l.length + 1
 | [] => by simp [mPut]
 | x :: l => by
  have := mPut_len (f := f) l
  have h2 : (mCutF (x :: l) f.id).length ≤ (x :: l).length := List.length_filter_le _ _
  unfold mPut
  split
  ·simp only [List.length_cons]; omega
  ·simp only [List.length_cons] at h2 ⊢; omega
theorem s_l3Put {s : List Feat} {f : Feat} (h : s.length + 1 ≤ 1048576) : gf_dt9 s f = some (mPut f s) := by
 obtain ⟨d, o, h1, h2⟩ := put_todo (f := f) s 0 [] (by simp; omega)
 have h3 := mPut_len (f := f) s
 simp only [List.nil_append] at h2
 unfold gf_dt9
 rw [if_pos (fits_small (by omega)), h1, Option.bind_some]
 cases d
 ·simp only [Bool.not_false, if_true]
  simp only [Bool.false_eq_true, if_false] at h2
  rw [if_pos (fits_small (by rw [h2]; omega)), h2]
 ·simp only [if_true] at h2
  simp [h2]
def Pw (v : List Feat) : Prop := v.Pairwise fun a b => slt a.id b.id = true
theorem mPut_mem {f : Feat} : ∀ {l : List Feat} {y : Feat}, y ∈ mPut f l → y = f ∨ y ∈ l
 | [], y, h => by simpa [mPut] using h
 | x :: l, y, h => by
  unfold mPut at h
  split at h
  ·rcases List.mem_cons.1 h with h | h
   ·exact .inr (by simp [h])
   ·rcases mPut_mem h with h | h
    ·exact .inl h
    ·exact .inr (by simp [h])
  ·rcases List.mem_cons.1 h with h | h
   ·exact .inl h
   ·exact .inr (List.mem_filter.1 h).1
theorem mPut_pw {f : Feat} : ∀ {l : List Feat}, Pw l → Pw (mPut f l)
 | [], _ => by simp [mPut, Pw]
 | x :: l, h => by
  unfold Pw at h
  rw [List.pairwise_cons] at h
  unfold mPut
  by_cases e : slt x.id f.id = true
  ·rw [if_pos e]
   unfold Pw
   rw [List.pairwise_cons]
   refine ⟨fun y hy => ?_, mPut_pw h.2⟩
   rcases mPut_mem hy with rfl | hy
   ·exact e
   ·exact h.1 y hy
  ·rw [if_neg e]
   unfold Pw
   rw [List.pairwise_cons]
   refine ⟨fun y hy => ?_, List.Pairwise.filter _ (List.pairwise_cons.2 h)⟩
   obtain ⟨hy, hn⟩ := List.mem_filter.1 hy
   simp only [Bool.not_eq_true', decide_eq_false_iff_not] at hn
   have hf : slt x.id f.id = false := by simpa using e
   have hxy : slt y.id f.id = false := by
    rcases List.mem_cons.1 hy with rfl | hy
    ·exact hf
    ·cases h2 : slt y.id f.id
     ·rfl
     ·rw [slt_sw.trans _ _ _ (h.1 y hy) h2] at hf; cases hf
   cases h3 : slt f.id y.id
   ·exact absurd (slt_anti hxy h3) hn
   ·rfl
theorem mPut_perm {f : Feat} : ∀ {l : List Feat}, (mPut f l).Perm (f :: mCutF l f.id)
 | [] => by simp [mPut, mCutF]
 | x :: l => by
  unfold mPut
  by_cases e : slt x.id f.id = true
  ·rw [if_pos e, mCutF_cons, if_neg (slt_ne e)]
   exact (List.Perm.cons x mPut_perm).trans (List.Perm.swap f x _)
  ·rw [if_neg e]
theorem pw_nodup {v : List Feat} (h : Pw v) : (v.map (·.id)).Nodup := by
 unfold List.Nodup
 rw [List.pairwise_map]
 exact h.imp fun h => slt_ne h
theorem mSheet_pw {s : List Feat} (h : mSheet s = true) : Pw s := by
 unfold mSheet at h
 rw [Bool.and_eq_true] at h
 have key : ∀ k x y, s[k]? = some x → s[k + 1]? = some y → slt x.id y.id = true := by
  intro k x y hx hy
  have := allFrom_get h.1 (k + 1) y hy
  simp only [Nat.zero_add, Bool.and_eq_true, Bool.or_eq_true, decide_eq_true_eq, mPrev, Nat.add_sub_cancel, hx] at this
  rcases this.2 with h | h
  ·omega
  ·exact h
 clear h
 induction s with
 | nil => exact List.Pairwise.nil
 | cons a s ih =>
  have ih := ih fun k x y hx hy => key (k + 1) x y hx hy
  unfold Pw
  rw [List.pairwise_cons]
  refine ⟨?_, ih⟩
  cases s with
  | nil => intro y hy; cases hy
  | cons b s =>
   have h1 := key 0 a b rfl rfl
   have ih2 := ih
   unfold Pw at ih2
   rw [List.pairwise_cons] at ih2
   intro y hy
   rcases List.mem_cons.1 hy with rfl | hy
   ·exact h1
   ·exact slt_sw.trans _ _ _ h1 (ih2.1 y hy)
def mStep (v : List Feat) (c : Change) : List Feat := if c.has = true then mPut c.now v else mCutF v c.id
def mFits (s : List Feat) (c : Change) : Bool := decide (mSide s c.id = (c.was, c.had))
def mDo (s : List Feat) (d : List Change) : List Feat × Bool := if (mSheet s && (mDiff d && (d.all (mFits s) && mSheet (d.foldl mStep s)))) = true then (d.foldl mStep s, true) else ([], false)
theorem side_w {s : List Feat} {id : Str} : wFeat (mSide s id).1 ≤ wL wFeat s := by
 unfold mSide
 split
 ·rename_i f hf
  have := sum_mem (w := wFeat) (List.mem_of_find?_eq_some hf)
  unfold wL
  simp only
  omega
 ·exact Nat.zero_le _
theorem one_now {c : Change} (h : mOne c = true) (h2 : c.has = true) : c.now.id = c.id := by
 unfold mOne mSideOk at h
 simp only [Bool.and_eq_true, h2, if_true, decide_eq_true_eq] at h
 exact h.2.2.1.2
theorem step_pw {v : List Feat} {c : Change} (h : Pw v) : Pw (mStep v c) := by
 unfold mStep
 split
 ·exact mPut_pw h
 ·exact List.Pairwise.filter _ h
theorem mDiff_one {d : List Change} (h : mDiff d = true) : ∀ c ∈ d, mOne c = true := fun c hc => by
 unfold mDiff at h
 rw [Bool.and_eq_true] at h
 obtain ⟨j, hj⟩ := allF h.1 hc
 rw [Bool.and_eq_true] at hj
 exact hj.1
theorem mFeat_w {f : Feat} (h : mFeat f = true) : wFeat f ≤ 100 := by
 unfold mFeat mShape mTags at h
 simp only [Bool.and_eq_true, decide_eq_true_eq] at h
 obtain ⟨h1, ⟨h2, h3, h4⟩, h5, h6⟩ := h
 have a1 := mWord_size h1
 have a2 : sumW wTag f.tags ≤ 14 * f.tags.length := sum_le2 fun t ht => by
  obtain ⟨j, hj⟩ := allF h5 ht
  simp only [Bool.and_eq_true] at hj
  have b1 := mWord_size hj.1
  have b2 := mWord_size hj.2.1
  unfold wTag
  omega
 have a3 := sum_w0 f.shape.pts
 unfold wFeat wShape wL
 omega
theorem mSheet_w {s : List Feat} (h : mSheet s = true) : wL wFeat s ≤ 1000 := by
 unfold mSheet at h
 rw [Bool.and_eq_true, decide_eq_true_eq] at h
 have a2 : sumW wFeat s ≤ 100 * s.length := sum_le2 fun t ht => by
  obtain ⟨j, hj⟩ := allF h.1 ht
  rw [Bool.and_eq_true] at hj
  exact mFeat_w hj.1
 unfold wL
 omega
def pWas (cs : List Commit) (up : List Int) : List Feat := match up with
 | [] => []
 | u :: _ => match cs[u.toNat]? with
  | some c => c.sheet
  | none => []
def pUp (up : List Int) (k : Nat) : Bool := allFrom (fun (x : Int) _ => decide (0 ≤ x) && decide (x < (k : Int))) up 0
def pNew (v : List Commit) (e : Entry) : List Commit := v ++ [⟨e.up, (mDo (pWas v e.up) e.diff).1, e.note⟩]
def pOpen (u : List Int → Nat → Bool) : List Entry → List Commit → Option (List Commit)
 | [], v => some v
 | e :: l, v => if (u e.up v.length && (mDo (pWas v e.up) e.diff).2) = true then pOpen u l (pNew v e) else none
def mOpen (ps : List Entry) (hs : List Head) : Repo × Bool := if ps.length ≤ 14 then (match pOpen pUp ps [] with
 | some cs => if mRepo ⟨cs, hs⟩ = true then (⟨cs, hs⟩, true) else (rNil, false)
 | none => (rNil, false)) else (rNil, false)
theorem mUp_p {up : List Int} {k : Nat} (h : mUp up k = true) : pUp up k = true := by
 unfold mUp at h
 rw [Bool.and_eq_true] at h
 exact h.1
theorem mRepo_up {cs : List Commit} {hs : List Head} (h : mRepo ⟨cs, hs⟩ = true) : ∀ j c, cs[j]? = some c → mUp c.up j = true := by
 intro j c hj
 unfold mRepo mCommits at h
 simp only [Bool.and_eq_true] at h
 have := allFrom_get h.2.2.2.2.1 j c hj
 simp only [Nat.zero_add, Bool.and_eq_true] at this
 exact this.1
theorem s_l4Copy {c : Change} (h : wChange c ≤ 1048576) : gf_dx9 c = some c := by
 unfold wChange at h
 unfold gf_dx9
 rw [s_l2Copy (by omega), Option.bind_some, s_l2Copy (by omega)]
 rfl
theorem s_l9Diff {d : List Change} (h : wL wChange d ≤ 1048576) : gf_er9 d = some d := by
 have hl : d.length ≤ 1048576 := by unfold wL at h; omega
 unfold gf_er9
 rw [if_pos (fits_small hl), cpa_loop (gl := gl_er9_1) (fun _ _ => rfl) (fun _ _ _ _ => rfl) d 0 [] (fun x hx => s_l4Copy (by have := sum_mem (w := wChange) hx; unfold wL at h; omega)) (by simpa using hl)]
 rfl
def SPw (v : List Str) : Prop := v.Pairwise fun a b => slt a b = true
theorem spw_nodup {v : List Str} (h : SPw v) : v.Nodup := List.Pairwise.imp (fun h => slt_ne h) h
theorem spw_one {a b : List Str} (ha : SPw a) (hb : SPw b) (h : ∀ x, x ∈ a ↔ x ∈ b) : a = b := by
 have hp : a.Perm b := (List.perm_ext_iff_of_nodup (spw_nodup ha) (spw_nodup hb)).2 h
 refine List.Perm.eq_of_pairwise (le := fun a b => slt a b = true) (fun x y _ _ g1 g2 => ?_) ha hb hp
 have := slt_sw.trans _ _ _ g1 g2
 rw [slt_sw.irrefl] at this
 cases this
theorem leS_trans (a b c : Str) : leS a b = true → leS b c = true → leS a c = true := by
 unfold leS
 simp only [Bool.not_eq_true']
 exact fun h1 h2 => slt_sw.ntrans _ _ _ h2 h1
theorem leS_total (a b : Str) : (leS a b || leS b a) = true := by
 unfold leS
 cases h : slt b a
 ·rfl
 ·cases h2 : slt a b
  ·rfl
  ·have := slt_sw.trans _ _ _ h h2
   rw [slt_sw.irrefl] at this
   cases this
theorem leS_lt {a b : Str} (h : leS a b = true) (hn : a ≠ b) : slt a b = true := by
 unfold leS at h
 cases h2 : slt a b
 ·exact absurd (slt_anti h2 (by simpa using h)) hn
 ·rfl
theorem le_slt {a b c : Str} (h : leS a b = true) (h2 : slt b c = true) : slt a c = true := by
 by_cases e : a = b
 ·rw [e]; exact h2
 ·exact slt_sw.trans _ _ _ (leS_lt h e) h2
theorem comp_mem {xs : List Str} {y : Str} : y ∈ Go.Lib.compact xs ↔ y ∈ xs := by
 unfold Go.Lib.compact Go.Lib.compactUpTo
 rw [List.mem_map]
 constructor
 ·rintro ⟨j, hj, rfl⟩
  rw [List.mem_filter, List.mem_range] at hj
  rw [getElem!_pos _ j (by simpa using hj.1)]
  simp
 ·intro h
  obtain ⟨j, hj⟩ := List.mem_iff_getElem?.1 h
  induction j using Nat.strongRecOn with
  | _ j ih =>
   have hl := (List.getElem?_eq_some_iff.1 hj).1
   have he := (List.getElem?_eq_some_iff.1 hj).2
   by_cases hk : j = 0 ∨ xs.toArray[j]! ≠ xs.toArray[j - 1]!
   ·refine ⟨j, ?_, ?_⟩
    ·rw [List.mem_filter, List.mem_range]
     exact ⟨hl, by unfold Go.Lib.keeps; exact decide_eq_true hk⟩
    ·rw [getElem!_pos _ j (by simpa using hl)]
     simpa using he
   ·have h0 : j ≠ 0 := fun e => hk (.inl e)
    have h1 : xs.toArray[j]! = xs.toArray[j - 1]! := Classical.not_not.1 fun e => hk (.inr e)
    rw [getElem!_pos _ j (by simpa using hl), getElem!_pos _ (j - 1) (by simp; omega)] at h1
    simp only [List.getElem_toArray] at h1
    refine ih (j - 1) (by omega) ?_
    rw [List.getElem?_eq_getElem (by omega), ← h1, he]
theorem comp_pw {xs : List Str} (h : xs.Pairwise fun a b => leS a b = true) : SPw (Go.Lib.compact xs) := by
 unfold Go.Lib.compact Go.Lib.compactUpTo SPw
 rw [List.pairwise_map, List.pairwise_filter]
 have hr := List.pairwise_lt_range (n := xs.length)
 refine List.Pairwise.imp_of_mem (fun {i j} hi hj hij _ hk => ?_) hr
 rw [List.mem_range] at hi hj
 rw [List.pairwise_iff_getElem] at h
 unfold Go.Lib.keeps at hk
 have hk := of_decide_eq_true hk
 rw [getElem!_pos _ i (by simpa using hi), getElem!_pos _ j (by simpa using hj)]
 rw [getElem!_pos _ j (by simpa using hj), getElem!_pos _ (j - 1) (by simp; omega)] at hk
 simp only [List.getElem_toArray] at hk ⊢
 have hne : xs[j] ≠ xs[j - 1] := by
  rcases hk with hk | hk
  ·omega
  ·exact hk
 have h1 : slt xs[j - 1] xs[j] = true := leS_lt (h (j - 1) j (by omega) hj (by omega)) (Ne.symm hne)
 by_cases e : i = j - 1
 ·subst e; exact h1
 ·exact le_slt (h i (j - 1) hi (by omega) (by omega)) h1
def mIds (a b : List Feat) : List Str := (b.foldl (fun v x => mPut x v) a).map (·.id)
theorem mPut_mem2 {f : Feat} : ∀ {l : List Feat} {i : Str}, i ∈ (mPut f l).map (·.id) ↔ i = f.id ∨ i ∈ l.map (·.id) := by
 intro l i
 have hp := (mPut_perm (f := f) (l := l)).map (·.id)
 rw [hp.mem_iff, List.map_cons, List.mem_cons]
 constructor
 ·rintro (h | h)
  ·exact .inl h
  ·obtain ⟨y, hy, e⟩ := List.mem_map.1 h
   exact .inr (List.mem_map.2 ⟨y, (List.mem_filter.1 hy).1, e⟩)
 ·rintro (h | h)
  ·exact .inl h
  ·by_cases e : i = f.id
   ·exact .inl e
   ·obtain ⟨y, hy, e2⟩ := List.mem_map.1 h
    refine .inr (List.mem_map.2 ⟨y, List.mem_filter.2 ⟨hy, ?_⟩, e2⟩)
    have : ¬ y.id = f.id := fun e3 => e (by rw [← e2, e3])
    simp [this]
theorem fold_mem : ∀ {b a : List Feat} {i : Str}, i ∈ (b.foldl (fun v x => mPut x v) a).map (·.id) ↔ i ∈ a.map (·.id) ∨ i ∈ b.map (·.id)
 | [], a, i => by simp
 | x :: b, a, i => by
  rw [List.foldl_cons, fold_mem, mPut_mem2, List.map_cons, List.mem_cons]
  constructor
  ·rintro ((h | h) | h)
   ·exact .inr (.inl h)
   ·exact .inl h
   ·exact .inr (.inr h)
  ·rintro (h | h | h)
   ·exact .inl (.inr h)
   ·exact .inl (.inl h)
   ·exact .inr h
theorem fold_pw : ∀ {b a : List Feat}, Pw a → Pw (b.foldl (fun v x => mPut x v) a)
 | [], a, h => h
 | x :: b, a, h => fold_pw (b := b) (mPut_pw h)
theorem mIds_pw {a b : List Feat} (h : Pw a) : SPw (mIds a b) := by
 unfold mIds SPw
 rw [List.pairwise_map]
 exact fold_pw h
theorem s_l4Ids' {a b : List Feat} (ha : a.length + b.length ≤ 1000) : gf_dy9 a b = some (mIds a b) := by
 have k1 : ∀ (l : List Feat) (k : Nat) (v : List Feat), v.length + l.length ≤ 1000 → gl_dy9_1 l k v = some (l.foldl (fun v x => mPut x v) v) ∧ (l.foldl (fun v x => mPut x v) v).length ≤ v.length + l.length := by
  intro l
  induction l with
  | nil => intro k v _; exact ⟨rfl, by simp⟩
  | cons x l ih =>
   intro k v h
   simp only [List.length_cons] at h
   have hp := mPut_len (f := x) v
   obtain ⟨h1, h2⟩ := ih (k + 1) (mPut x v) (by omega)
   exact ⟨by simp only [gl_dy9_1, s_l3Put (s := v) (f := x) (by omega), Option.bind_some, h1, List.foldl_cons], by simp only [List.length_cons, List.foldl_cons]; omega⟩
 have k2 : ∀ (l : List Feat) (k : Nat) (v : List Str), v.length + l.length ≤ 1000 → gl_dy9_2 l k v = some (v ++ l.map (·.id)) := by
  intro l
  induction l with
  | nil => intro k v _; simp [gl_dy9_2]
  | cons x l ih =>
   intro k v h
   simp only [List.length_cons] at h
   simp only [gl_dy9_2]
   rw [if_pos (fits_small (by simp; omega)), ih _ _ (by simp; omega)]
   simp
 obtain ⟨h1, h2⟩ := k1 b 0 a (by omega)
 unfold gf_dy9
 rw [if_pos (fits_small (by omega)), h1, Option.bind_some, if_pos (fits_small (by omega)), k2 _ 0 [] (by simp; omega)]
 rfl
theorem i_names {a b : List Feat} (hp : Pw a) (ha : a.length + b.length ≤ 1000) : gf_bb9 [a, b] = some (mIds a b) := by
 have k5 : ∀ (l : List Feat) (k : Nat) (v : List Str), v.length + l.length ≤ 1000 → gl_bb9_5 l k v = some (v ++ l.map (·.id)) := by
  intro l
  induction l with
  | nil => intro k v _; simp [gl_bb9_5]
  | cons x l ih =>
   intro k v h
   simp only [List.length_cons] at h
   simp only [gl_bb9_5]
   rw [if_pos (fits_small (by simp; omega)), ih _ _ (by simp; omega)]
   simp
 have hm : ((a.map (·.id) ++ b.map (·.id)).mergeSort leS).length ≤ 1000 := by rw [List.length_mergeSort]; simpa using ha
 unfold gf_bb9
 simp only [gl_bb9_4, fits_small (n := [a, b].length) (by simp), fits_small (n := a.length) (by omega), fits_small (n := b.length) (by omega), k5 a 0 [] (by simp; omega), k5 b 0 (a.map (·.id)) (by simp; omega), if_true, Option.bind_some, List.nil_append, gf_ca9, sortS, fits_small (n := (a.map (·.id) ++ b.map (·.id)).length) (by simp; omega), gf_bj9, compS, fits_small (n := ((a.map (·.id) ++ b.map (·.id)).mergeSort leS).length) (by omega)]
 congr 1
 refine spw_one (comp_pw (List.pairwise_mergeSort leS_trans leS_total _)) (mIds_pw hp) fun x => ?_
 rw [comp_mem, (List.mergeSort_perm _ leS).mem_iff, List.mem_append]
 unfold mIds
 exact (fold_mem (a := a) (b := b)).symm
def mCh (a b : List Feat) (i : Str) : Change := ⟨i, (mSide a i).2, (mSide a i).1, (mSide b i).2, (mSide b i).1⟩
def mDf (a b : List Feat) : List Change := (mIds a b).filterMap fun i => if mSide a i = mSide b i then none else some (mCh a b i)
theorem side_ne {x y : Feat × Bool} : x = y ↔ x.2 = y.2 ∧ x.1 = y.1 := by
 obtain ⟨a, b⟩ := x
 obtain ⟨c, d⟩ := y
 simp only [Prod.mk.injEq]
 exact and_comm
theorem df_loop {a b : List Feat} {gl : List Str → Nat → List Change → Option (List Change)} (h0 : ∀ k v, gl [] k v = some v) (h1 : ∀ x l k v, gl (x :: l) k v = if mSide a x = mSide b x then gl l (k + 1) v else if fits (v ++ [mCh a b x]).length = true then gl l (k + 1) (v ++ [mCh a b x]) else none) : ∀ (l : List Str) (k : Nat) (v : List Change), v.length + l.length ≤ 1000000 → gl l k v = some (v ++ l.filterMap fun i => if mSide a i = mSide b i then none else some (mCh a b i))
 | [], k, v, _ => by rw [h0]; simp
 | x :: l, k, v, h => by
  simp only [List.length_cons] at h
  rw [h1, List.filterMap_cons]
  by_cases e : mSide a x = mSide b x
  ·rw [if_pos e, if_pos e, df_loop h0 h1 l (k + 1) v (by omega)]
  ·rw [if_neg e, if_neg e, if_pos (fits_small (by simp; omega)), df_loop h0 h1 l (k + 1) _ (by simp; omega)]
   simp
theorem mIds_len {a b : List Feat} : (mIds a b).length ≤ a.length + b.length := by
 have key : ∀ (l v : List Feat), (l.foldl (fun v x => mPut x v) v).length ≤ v.length + l.length := by
  intro l
  induction l with
  | nil => intro v; simp
  | cons x l ih =>
   intro v
   have h1 := ih (mPut x v)
   have h2 := mPut_len (f := x) v
   simp only [List.foldl_cons, List.length_cons]
   omega
 unfold mIds
 rw [List.length_map]
 exact key b a
theorem s_l4Of' {a b : List Feat} (wa : wL wFeat a ≤ 1000000) (wb : wL wFeat b ≤ 1000000) (la : a.length ≤ 400) (lb : b.length ≤ 400) : gf_ea9 a b = some (mDf a b) := by
 have hl := mIds_len (a := a) (b := b)
 have h := df_loop (a := a) (b := b) (gl := gl_ea9_1 a b) (fun _ _ => rfl) (fun x l k v => by
  have e1 := side_w (s := a) (id := x)
  have e2 := side_w (s := b) (id := x)
  simp only [gl_ea9_1, s_l4Side (s := a) (by omega), s_l4Side (s := b) (by omega), Option.bind_some, s_FeatSame (a := (mSide a x).1) (b := (mSide b x).1) (by omega)]
  unfold mCh
  by_cases h1 : (mSide a x).2 = (mSide b x).2
  ·by_cases h2 : (mSide a x).1 = (mSide b x).1
   ·rw [if_pos (side_ne.2 ⟨h1, h2⟩)]
    simp [h1, h2]
   ·rw [if_neg (fun e => h2 (side_ne.1 e).2)]
    simp [h1, h2]
  ·rw [if_neg (fun e => h1 (side_ne.1 e).1)]
   simp [h1]) (mIds a b) 0 [] (by simp; omega)
 unfold gf_ea9 mDf
 rw [s_l4Ids' (by omega), Option.bind_some, if_pos (fits_small (by omega)), h]
 rfl
theorem i_DiffOf {a b : List Feat} (ha : mSheet a = true) (hb : mSheet b = true) (wa : wL wFeat a ≤ 400000) (wb : wL wFeat b ≤ 400000) : gf_ab9 a b = some (mDf a b) := by
 have la : a.length ≤ 8 := by unfold mSheet at ha; rw [Bool.and_eq_true, decide_eq_true_eq] at ha; exact ha.2
 have lb : b.length ≤ 8 := by unfold mSheet at hb; rw [Bool.and_eq_true, decide_eq_true_eq] at hb; exact hb.2
 have hl := mIds_len (a := a) (b := b)
 have hsz : ∀ i ∈ mIds a b, i.size ≤ 1000 := fun i hi => by
  unfold mIds at hi
  rcases fold_mem.1 hi with h | h
  ·obtain ⟨y, hy, e⟩ := List.mem_map.1 h
   have := sum_mem (w := wFeat) hy
   have h2 := mSheet_w ha
   unfold wL at h2
   have e0 : wFeat y = y.id.size + (wShape y.shape + (wL wTag y.tags + 0)) := rfl
   rw [← e]
   omega
  ·obtain ⟨y, hy, e⟩ := List.mem_map.1 h
   have := sum_mem (w := wFeat) hy
   have h2 := mSheet_w hb
   unfold wL at h2
   have e0 : wFeat y = y.id.size + (wShape y.shape + (wL wTag y.tags + 0)) := rfl
   rw [← e]
   omega
 have key : ∀ (l : List Str) (k : Nat) (v : List Change), (∀ i ∈ l, i.size ≤ 1000) → v.length + l.length ≤ 1000 → gl_ab9_1 a b l k v = some (v ++ l.filterMap fun i => if mSide a i = mSide b i then none else some (mCh a b i)) := by
  intro l
  induction l with
  | nil => intro k v _ _; simp [gl_ab9_1]
  | cons x l ih =>
   intro k v hi h
   simp only [List.length_cons] at h
   have e1 := side_w (s := a) (id := x)
   have e2 := side_w (s := b) (id := x)
   have hx := hi x (by simp)
   have hcs : gf_aa9 (⟨x, (mSide a x).2, ⟨(mSide a x).1.id, ⟨(mSide a x).1.shape.kind, (mSide a x).1.shape.pts⟩, (mSide a x).1.tags⟩, (mSide b x).2, (mSide b x).1⟩ : Change) = some (((mSide a x).2 == (mSide b x).2) && decide ((mSide a x).1 = (mSide b x).1)) := i_Change_same (show x.size + (wFeat (mSide a x).1 + (wFeat (mSide b x).1 + 0)) ≤ 1048576 by omega)
   have ih1 := ih (k + 1) v (fun i h => hi i (by simp [h])) (by omega)
   have ih2 := ih (k + 1) (v ++ [mCh a b x]) (fun i h => hi i (by simp [h])) (by simp; omega)
   simp only [gl_ab9_1, i_side (s := a) (by omega), i_side (s := b) (by omega), Option.bind_some, hcs, List.filterMap_cons]
   by_cases h1 : (mSide a x).2 = (mSide b x).2
   ·by_cases h2 : (mSide a x).1 = (mSide b x).1
    ·rw [if_pos (side_ne.2 ⟨h1, h2⟩), if_neg (by simp [h1, h2]), ih1]
    ·rw [if_neg (fun e => h2 (side_ne.1 e).2), if_pos (by simp [h1, h2]), if_pos (fits_small (by simp; omega))]
     refine Eq.trans ih2 ?_
     simp
   ·rw [if_neg (fun e => h1 (side_ne.1 e).1), if_pos (by simp [h1]), if_pos (fits_small (by simp; omega))]
    refine Eq.trans ih2 ?_
    simp
 unfold gf_ab9 mDf
 simp only [i_SheetOk (fs := a) (by omega), i_SheetOk (fs := b) (by omega), ha, hb, Option.bind_some, Bool.not_true, Bool.false_eq_true, if_false, i_names (a := a) (b := b) (mSheet_pw ha) (by omega), fits_small (n := (mIds a b).length) (by omega), if_true, key (mIds a b) 0 [] hsz (by simp; omega), List.nil_append]
def mPack (r : Repo) : List Entry := if mRepo r = true then r.commits.map fun c => ⟨c.up, c.note, mDf (pWas r.commits c.up) c.sheet⟩ else []
theorem repo_sheet {r : Repo} (h : mRepo r = true) : ∀ c ∈ r.commits, mSheet c.sheet = true := by
 intro c hc
 unfold mRepo mCommits at h
 simp only [Bool.and_eq_true] at h
 obtain ⟨j, hj⟩ := allF h.2.2.2.2.1 hc
 simp only [Bool.and_eq_true] at hj
 exact hj.2.1
theorem was_sheet {r : Repo} (h : mRepo r = true) (up : List Int) : mSheet (pWas r.commits up) = true := by
 unfold pWas
 split
 ·decide
 ·split
  ·rename_i c hc
   exact repo_sheet h c (List.mem_of_getElem? hc)
  ·decide
theorem sheet_len {s : List Feat} (h : mSheet s = true) : s.length ≤ 8 := by
 unfold mSheet at h
 rw [Bool.and_eq_true, decide_eq_true_eq] at h
 exact h.2
theorem mDf_b {a b : List Feat} (ha : mSheet a = true) (hb : mSheet b = true) : (mDf a b).length ≤ 16 ∧ wL wChange (mDf a b) ≤ 40000 := by
 have hl := mIds_len (a := a) (b := b)
 have la := sheet_len ha
 have lb := sheet_len hb
 have h1 : (mDf a b).length ≤ (mIds a b).length := List.length_filterMap_le _ _
 have wa := mSheet_w ha
 have wb := mSheet_w hb
 have h2 : sumW wChange (mDf a b) ≤ 2100 * (mDf a b).length := sum_le2 fun c hc => by
  unfold mDf at hc
  obtain ⟨i, hi, e⟩ := List.mem_filterMap.1 hc
  split at e
  ·cases e
  ·cases e
   have e1 := side_w (s := a) (id := i)
   have e2 := side_w (s := b) (id := i)
   have e3 : i.size ≤ 100 := by
    unfold mIds at hi
    have key : ∀ {s : List Feat}, mSheet s = true → i ∈ s.map (·.id) → i.size ≤ 100 := fun hs h => by
     obtain ⟨y, hy, e⟩ := List.mem_map.1 h
     unfold mSheet at hs
     rw [Bool.and_eq_true] at hs
     obtain ⟨j, hj⟩ := allF hs.1 hy
     rw [Bool.and_eq_true] at hj
     have := mFeat_w hj.1
     have e0 : wFeat y = y.id.size + (wShape y.shape + (wL wTag y.tags + 0)) := rfl
     rw [← e]
     omega
    rcases fold_mem.1 hi with h | h
    ·exact key ha h
    ·exact key hb h
   show i.size + (wFeat (mSide a i).1 + (wFeat (mSide b i).1 + 0)) ≤ 2100
   omega
 refine ⟨by omega, ?_⟩
 unfold wL
 omega
theorem s_l9Was' {r : Repo} {k : Nat} {c : Commit} (hr : mRepo r = true) (hk : r.commits[k]? = some c) : gf_es9 r (k : Int) = some (pWas r.commits c.up) := by
 have hu := mRepo_up (cs := r.commits) (hs := r.heads) hr k c hk
 unfold gf_es9 pWas
 rw [idx_nat, hk, Option.bind_some]
 match h : c.up with
 | [] => rfl
 | x :: xs =>
  rw [h] at hu
  have h2 := mUp_p hu
  unfold pUp at h2
  simp only [allFrom, Bool.and_eq_true, decide_eq_true_eq] at h2
  have hkl := get_lt hk
  obtain ⟨y, hy⟩ := getI (xs := r.commits) (i := x.toNat) (by omega)
  rw [if_neg (by simp; omega), show idx (x :: xs) 0 = some x from rfl, Option.bind_some, idx_int h2.1.1, hy]
  simp [hy]
theorem commit_up {r : Repo} (hw : wRepo r ≤ 1048576) {c : Commit} (hc : c ∈ r.commits) : c.up.length ≤ 1048576 := by
 have h1 := sum_mem (w := wCommit) hc
 have e0 : wCommit c = wL w0 c.up + (wL wFeat c.sheet + (c.note.size + 0)) := rfl
 have e1 : wL w0 c.up = c.up.length + sumW w0 c.up := rfl
 unfold wRepo at hw
 have e2 : wL wCommit r.commits = r.commits.length + sumW wCommit r.commits := rfl
 omega
theorem s_PackOf' {r : Repo} (hw : wRepo r ≤ 1048576) : gf_ch9 r = some (mPack r) := by
 have hcl : r.commits.length ≤ 1048576 := by unfold wRepo wL at hw; omega
 unfold gf_ch9 mPack
 rw [if_pos (fits_small hcl)]
 by_cases hr : mRepo r = true
 ·have key : ∀ (l : List Commit) (k : Nat) (v : List Entry), r.commits.drop k = l → v.length + l.length ≤ 1048576 → gl_ch9_1 r l k v = some (v ++ l.map fun c => ⟨c.up, c.note, mDf (pWas r.commits c.up) c.sheet⟩) := by
   intro l
   induction l with
   | nil => intro k v _ h; simp [gl_ch9_1]
   | cons x l ih =>
    intro k v hd h
    simp only [List.length_cons] at h
    have hx := drop_get hd
    have hxm := List.mem_of_getElem? hx
    have s1 := was_sheet hr x.up
    have s2 := repo_sheet hr x hxm
    have w1 := mSheet_w s1
    have w2 := mSheet_w s2
    have hb := mDf_b s1 s2
    have hup := commit_up hw hxm
    simp only [gl_ch9_1, s_RepoOk hw, hr, if_true, Option.bind_some, s_l9Was' hr hx]
    rw [if_pos (fits_small (by simpa using hup)), s_l4Of' (by omega) (by omega) (by have := sheet_len s1; omega) (by have := sheet_len s2; omega), Option.bind_some, s_l9Diff (by omega), Option.bind_some, if_pos (fits_small (by simp; omega)), ih (k + 1) _ (drop_next hd) (by simp; omega)]
    simp
  rw [key r.commits 0 [] rfl (by simpa using hcl), if_pos hr]
  rfl
 ·rw [if_neg hr]
  cases hc : r.commits with
  | nil => rfl
  | cons x l =>
   simp only [gl_ch9_1, s_RepoOk hw, Option.bind_some]
   rw [if_neg hr]
   rfl
theorem i_PackOf {r : Repo} (hw : wRepo r ≤ 1048576) : gf_ai9 r = some (mPack r) := by
 have hcl : r.commits.length ≤ 1048576 := by unfold wRepo wL at hw; omega
 unfold gf_ai9 mPack
 rw [i_RepoOk hw, Option.bind_some]
 by_cases hr : mRepo r = true
 ·have key : ∀ (l : List Commit) (k : Nat) (v : List Entry), r.commits.drop k = l → v.length + l.length ≤ 1048576 → gl_ai9_1 r l k v = some (v ++ l.map fun c => ⟨c.up, c.note, mDf (pWas r.commits c.up) c.sheet⟩) := by
   intro l
   induction l with
   | nil => intro k v _ h; simp [gl_ai9_1]
   | cons x l ih =>
    intro k v hd h
    simp only [List.length_cons] at h
    have hx := drop_get hd
    have hxm := List.mem_of_getElem? hx
    have s1 := was_sheet hr x.up
    have s2 := repo_sheet hr x hxm
    have w1 := mSheet_w s1
    have w2 := mSheet_w s2
    have hup := commit_up hw hxm
    have hq : (if (decide ((x.up.length : Int) > 0)) = true then ((idx x.up 0).bind fun x108 => (idx r.commits x108).bind fun x110 => some x110.sheet) else (some []) : Option (List Feat)) = some (pWas r.commits x.up) := by
     have hu := mRepo_up (cs := r.commits) (hs := r.heads) hr k x hx
     unfold pWas
     match h : x.up with
     | [] => rfl
     | u :: us =>
      rw [h] at hu
      have h2 := mUp_p hu
      unfold pUp at h2
      simp only [allFrom, Bool.and_eq_true, decide_eq_true_eq] at h2
      have hkl := get_lt hx
      obtain ⟨y, hy⟩ := getI (xs := r.commits) (i := u.toNat) (by omega)
      rw [if_pos (by simp), show idx (u :: us) 0 = some u from rfl, Option.bind_some, idx_int h2.1.1, hy]
      simp [hy]
    simp only [gl_ai9_1, hq, Option.bind_some]
    rw [if_pos (fits_small (by simpa using hup)), i_DiffOf s1 s2 (by omega) (by omega), Option.bind_some, if_pos (fits_small (by simp; omega)), ih (k + 1) _ (drop_next hd) (by simp; omega)]
    simp
  rw [if_neg (by simp [hr]), if_pos (fits_small hcl), key r.commits 0 [] rfl (by simpa using hcl), if_pos hr]
  rfl
 ·rw [if_neg hr, if_pos (by simp [hr])]
theorem catS {a b : Str} (h : a.size + b.size ≤ 9223372036854775807) : cat a b = some (a ++ b) := if_pos h
theorem itoaS_size {n : Int} (h : rI n) : (itoaS n).size ≤ 21 := by
 have := Go.Lib.itoa_length_le n h.1 h.2
 show (Go.Lib.itoa n).toArray.size ≤ 21
 simpa using this
theorem i_Itoa {n : Int} (h : rI n) : gf_et9 n = some (itoaS n) := by
 unfold gf_et9 itoaF
 rw [if_pos]
 have h1 := h.1
 have h2 := h.2
 simp [h1, h2]
theorem u8_wrap {n : Nat} (h : n ≤ 200) : IntKind.u8.wrap (n : Int) = (n : Int) := by
 simp only [IntKind.wrap, IntKind.signed, IntKind.bits, Bool.false_and, Bool.false_eq_true, if_false]
 omega
theorem digitS {d : Nat} (h : d ≤ 9) : bstr ([(IntKind.u8.wrap (IntKind.i64.wrap (48 + (d : Int))))] : List Int) = (⟨#[UInt8.ofNat (48 + d)]⟩ : Str) := by
 rw [wrap_id (by omega) (by omega), show (48 + (d : Int)) = ((48 + d : Nat) : Int) by omega, u8_wrap (by omega)]
 rfl
theorem app_mk (a b : List UInt8) : (⟨(a ++ b).toArray⟩ : Str) = (⟨a.toArray⟩ : Str) ++ (⟨b.toArray⟩ : Str) := by
 apply ByteArray.ext
 simp
theorem dec_loop : ∀ (k m v : Nat) (acc : Str), v < 10 ^ k → 0 < k → v ≤ 9223372036854775807 → acc.size + k ≤ 100 → ∃ (d : Nat) (r : Str), gl_cs9_1 (k + m) (v : Int) acc = some ((d : Int), r) ∧ d ≤ 9 ∧ r.size ≤ 100 ∧ (⟨#[UInt8.ofNat (48 + d)]⟩ : Str) ++ r = (⟨(Go.Lib.decDigits v).toArray⟩ : Str) ++ acc
 | 0, m, v, acc, h, hk, _, _ => absurd hk (by omega)
 | k + 1, m, v, acc, h, _, hv, hs => by
  rw [show k + 1 + m = (k + m) + 1 by omega, gl_cs9_1, Go.Lib.decDigits]
  by_cases h9 : v < 10
  ·rw [if_neg (by simp; omega), dif_pos h9]
   exact ⟨v, acc, rfl, by omega, by omega, rfl⟩
  ·have hk : 0 < k := by
    rcases Nat.eq_zero_or_pos k with rfl | hk
    ·simp at h; omega
    ·exact hk
   rw [if_pos (by simp; omega), dif_neg h9]
   have e1 : Int.tmod (v : Int) 10 = ((v % 10 : Nat) : Int) := by rw [Int.tmod_eq_emod_of_nonneg (by omega)]; rfl
   have e2 : IntKind.i64.wrap (Int.tdiv (v : Int) 10) = ((v / 10 : Nat) : Int) := by
    rw [Int.tdiv_eq_ediv_of_nonneg (by omega)]
    exact wrap_id (by omega) (by omega)
   rw [e1, e2, digitS (by omega)]
   rw [catS (by show 1 + acc.size ≤ _; omega)]
   have hsz : ((⟨#[UInt8.ofNat (48 + v % 10)]⟩ : Str) ++ acc).size = 1 + acc.size := by rw [ByteArray.size_append]; rfl
   obtain ⟨d, r, g1, g2, g3, g4⟩ := dec_loop k m (v / 10) ((⟨#[UInt8.ofNat (48 + v % 10)]⟩ : Str) ++ acc) (by rw [Nat.pow_succ] at h; omega) hk (by omega) (by omega)
   refine ⟨d, r, g1, g2, g3, ?_⟩
   rw [g4, app_mk, ByteArray.append_assoc]
theorem dec_nat {v : Nat} (h : v ≤ 9223372036854775807) (rec : Int → Option Str) : gb_cs9 rec (v : Int) = some (⟨(Go.Lib.decDigits v).toArray⟩ : Str) := by
 unfold gb_cs9
 rw [if_neg (by simp), if_neg (by simp)]
 obtain ⟨d, r, g1, g2, g3, g4⟩ := dec_loop 20 (4194304 - 20) v (⟨#[]⟩ : Str) (Nat.lt_of_le_of_lt h (by decide)) (by decide) h (by show 0 + 20 ≤ 100; omega)
 rw [show rounds = 20 + (4194304 - 20) from rfl, g1]
 simp only [Option.bind_some]
 rw [digitS g2, catS (by show 1 + r.size ≤ _; omega), g4]
 simp only [Option.bind_some]
 exact congrArg some ByteArray.append_empty
theorem s_l12Dec {n : Int} (h : rI n) : gf_cs9 rounds n = some (itoaS n) := by
 show gb_cs9 (gf_cs9 4194303) n = some (itoaS n)
 obtain ⟨h1, h2⟩ := h
 unfold itoaS Go.Lib.itoa
 by_cases h0 : n < 0
 ·rw [if_pos h0]
  unfold gb_cs9
  by_cases hm : n < -9223372036854775807
  ·have e : n = -9223372036854775808 := by omega
   subst e
   rw [if_pos (by decide)]
   decide +kernel
  ·rw [if_neg (by simp; omega), if_pos (by simp; omega)]
   rw [wrap_id (by omega) (by omega), show (0 - n) = ((n.natAbs : Nat) : Int) by omega]
   show ((gb_cs9 (gf_cs9 4194302) _).bind _) = _
   rw [dec_nat (by omega)]
   simp only [Option.bind_some]
   have hs : (Go.Lib.decDigits n.natAbs).length ≤ 30 := by
    have := Go.Lib.itoa_length_le n h1 h2
    unfold Go.Lib.itoa at this
    rw [if_pos h0] at this
    simp at this
    omega
   rw [catS (by show 1 + (Go.Lib.decDigits n.natAbs).toArray.size ≤ _; simp; omega)]
   simp only [Option.bind_some]
   congr 1
 ·rw [if_neg h0]
  obtain ⟨v, rfl⟩ := Int.eq_ofNat_of_zero_le (Int.not_lt.1 h0)
  rw [dec_nat (by omega)]
  rfl
def tJ {α : Type} (f : α → Nat → Str) : List α → Nat → Str
 | [], _ => ⟨#[]⟩
 | x :: l, k => f x k ++ tJ f l (k + 1)
theorem tJ_size {α : Type} {f : α → Nat → Str} {M : Nat} {xs : List α} (hz : ∀ x k, x ∈ xs → k < xs.length → (f x k).size ≤ M) : ∀ (l : List α) (k : Nat), xs.drop k = l → (tJ f l k).size ≤ M * l.length
 | [], k, _ => Nat.zero_le _
 | x :: l, k, h => by
  have hm : x ∈ xs := List.mem_of_getElem? (drop_get h)
  have hl := drop_len h
  have h1 := hz x k hm (by omega)
  have h2 := tJ_size hz l (k + 1) (drop_next h)
  show (f x k ++ tJ f l (k + 1)).size ≤ _
  rw [ByteArray.size_append, List.length_cons, Nat.mul_succ]
  omega
theorem loopT {α : Type} {gl : List α → Nat → Str → Option Str} {f : α → Nat → Str} {M B : Nat} {xs : List α} (hn : ∀ k v, gl [] k v = some v) (hs : ∀ x l k v, xs.drop k = x :: l → v.size ≤ B → gl (x :: l) k v = gl l (k + 1) (v ++ f x k)) (hz : ∀ x k, x ∈ xs → k < xs.length → (f x k).size ≤ M) :
  ∀ (l : List α) (k : Nat) (v : Str), xs.drop k = l → v.size + M * l.length ≤ B → gl l k v = some (v ++ tJ f l k)
 | [], k, v, _, _ => by
  rw [hn]
  exact congrArg some ByteArray.append_empty.symm
 | x :: l, k, v, h, hB => by
  have hm : x ∈ xs := List.mem_of_getElem? (drop_get h)
  have hl := drop_len h
  rw [List.length_cons, Nat.mul_succ] at hB
  have h1 := hz x k hm (by omega)
  rw [hs x l k v h (by omega), loopT hn hs hz l (k + 1) (v ++ f x k) (drop_next h) (by rw [ByteArray.size_append]; omega)]
  show _ = some (v ++ (f x k ++ tJ f l (k + 1)))
  rw [ByteArray.append_assoc]
def xPt (p : Pt) (_ : Nat) : Str := (⟨#[32]⟩ : Str) ++ (itoaS p.x ++ ((⟨#[44]⟩ : Str) ++ itoaS p.y))
def xName (k : Int) : Str := if k = 1 then ⟨#[100, 111, 116]⟩ else if k = 2 then ⟨#[108, 105, 110, 101]⟩ else ⟨#[114, 105, 110, 103]⟩
def xShape (s : Shape) : Str := xName s.kind ++ tJ xPt s.pts 0
def xTag (t : Tag) (_ : Nat) : Str := (⟨#[32]⟩ : Str) ++ (t.key ++ ((⟨#[61]⟩ : Str) ++ t.val))
def xFeat (f : Feat) : Str := f.id ++ ((⟨#[32]⟩ : Str) ++ (xShape f.shape ++ tJ xTag f.tags 0))
theorem one_size (c : UInt8) : (⟨#[c]⟩ : Str).size = 1 := rfl
theorem shape_kind {s : Shape} (h : mShape s = true) : s.kind = 1 ∨ s.kind = 2 ∨ s.kind = 3 := by
 unfold mShape at h
 simp only [Bool.and_eq_true] at h
 by_cases h1 : s.kind = 1
 ·exact .inl h1
 by_cases h2 : s.kind = 2
 ·exact .inr (.inl h2)
 by_cases h3 : s.kind = 3
 ·exact .inr (.inr h3)
 simp [h1, h2, h3] at h
theorem shape_pts {s : Shape} (h : mShape s = true) : s.pts.length ≤ 6 ∧ ∀ p ∈ s.pts, rI p.x ∧ rI p.y := by
 unfold mShape at h
 simp only [Bool.and_eq_true, decide_eq_true_eq] at h
 refine ⟨h.2.1, fun p hp => ?_⟩
 have h1 := h.1
 unfold mPts at h1
 obtain ⟨j, hj⟩ := allF h1 hp
 simp only [Bool.and_eq_true, mNum, decide_eq_true_eq] at hj
 exact ⟨⟨by omega, by omega⟩, by omega, by omega⟩
theorem pt_size {p : Pt} {k : Nat} (h : rI p.x ∧ rI p.y) : (xPt p k).size ≤ 44 := by
 unfold xPt
 have h1 := itoaS_size h.1
 have h2 := itoaS_size h.2
 simp only [ByteArray.size_append, one_size]
 omega
theorem name_size {k : Int} : (xName k).size ≤ 4 := by
 unfold xName
 split
 ·decide
 ·split <;> decide
theorem xShape_size {s : Shape} (h : mShape s = true) : (xShape s).size ≤ 268 := by
 obtain ⟨h1, h2⟩ := shape_pts h
 have := tJ_size (M := 44) (xs := s.pts) (f := xPt) (fun x k hx _ => pt_size (h2 x hx)) s.pts 0 rfl
 unfold xShape
 rw [ByteArray.size_append]
 have := name_size (k := s.kind)
 have : 44 * s.pts.length ≤ 264 := by omega
 omega
theorem i_text {s : Shape} (h : mShape s = true) : gf_at9 s = some (xShape s) := by
 obtain ⟨h1, h2⟩ := shape_pts h
 unfold gf_at9
 have e : idx shNames s.kind = some (xName s.kind) := by
  rcases shape_kind h with e | e | e <;> rw [e] <;> rfl
 rw [e]
 simp only [Option.bind_some]
 rw [if_pos (fits_small (by omega)), loopT (gl := gl_at9_1) (f := xPt) (M := 44) (B := 1000) (xs := s.pts) (fun _ _ => rfl) (fun x l k v hd hv => ?_) (fun x k hx _ => pt_size (h2 x hx)) s.pts 0 _ rfl (by have := name_size (k := s.kind); omega)]
 ·rfl
 ·have hx := h2 x (List.mem_of_getElem? (drop_get hd))
  have a1 := itoaS_size hx.1
  have a2 := itoaS_size hx.2
  rw [gl_at9_1]
  simp only [i_Itoa hx.1, i_Itoa hx.2, Option.bind_some]
  rw [catS (by rw [one_size]; omega)]
  simp only [Option.bind_some]
  rw [catS (by simp only [ByteArray.size_append, one_size]; omega)]
  simp only [Option.bind_some]
  rw [catS (by simp only [ByteArray.size_append, one_size]; omega)]
  simp only [Option.bind_some]
  rw [catS (by simp only [ByteArray.size_append, one_size]; omega)]
  simp only [Option.bind_some, xPt, ByteArray.append_assoc]
theorem s_text {s : Shape} (h : mShape s = true) : gf_co9 s = some (xShape s) := by
 obtain ⟨h1, h2⟩ := shape_pts h
 unfold gf_co9
 rw [s_ShapeOk (by omega), h]
 have e : gf_df9 s.kind = some (xName s.kind) := by
  rcases shape_kind h with e | e | e <;> rw [e] <;> rfl
 simp only [Option.bind_some, e, Bool.not_true, Bool.false_eq_true, if_false]
 rw [if_pos (fits_small (by omega)), loopT (gl := gl_co9_1) (f := xPt) (M := 44) (B := 1000) (xs := s.pts) (fun _ _ => rfl) (fun x l k v hd hv => ?_) (fun x k hx _ => pt_size (h2 x hx)) s.pts 0 _ rfl (by have := name_size (k := s.kind); omega)]
 ·rfl
 ·have hx := h2 x (List.mem_of_getElem? (drop_get hd))
  have a1 := itoaS_size hx.1
  have a2 := itoaS_size hx.2
  rw [gl_co9_1]
  simp only [s_l12Dec hx.1, s_l12Dec hx.2, Option.bind_some]
  rw [catS (by rw [one_size]; omega)]
  simp only [Option.bind_some]
  rw [catS (by simp only [ByteArray.size_append, one_size]; omega)]
  simp only [Option.bind_some]
  rw [catS (by simp only [ByteArray.size_append, one_size]; omega)]
  simp only [Option.bind_some]
  rw [catS (by simp only [ByteArray.size_append, one_size]; omega)]
  simp only [Option.bind_some, xPt, ByteArray.append_assoc]
theorem feat_parts {f : Feat} (h : mFeat f = true) : mWord f.id = true ∧ mShape f.shape = true ∧ f.tags.length ≤ 4 ∧ ∀ t ∈ f.tags, t.key.size ≤ 7 ∧ t.val.size ≤ 7 := by
 unfold mFeat at h
 simp only [Bool.and_eq_true, decide_eq_true_eq] at h
 refine ⟨h.1, h.2.1, h.2.2.2, fun t ht => ?_⟩
 have h1 := h.2.2.1
 unfold mTags at h1
 obtain ⟨j, hj⟩ := allF h1 ht
 simp only [Bool.and_eq_true] at hj
 exact ⟨mWord_size hj.1, mWord_size hj.2.1⟩
theorem tag_size {t : Tag} {k : Nat} (h : t.key.size ≤ 7 ∧ t.val.size ≤ 7) : (xTag t k).size ≤ 16 := by
 unfold xTag
 simp only [ByteArray.size_append, one_size]
 omega
theorem xFeat_size {f : Feat} (h : mFeat f = true) : (xFeat f).size ≤ 340 := by
 obtain ⟨h1, h2, h3, h4⟩ := feat_parts h
 have a1 := mWord_size h1
 have a2 := xShape_size h2
 have a3 := tJ_size (M := 16) (xs := f.tags) (f := xTag) (fun x k hx _ => tag_size (h4 x hx)) f.tags 0 rfl
 unfold xFeat
 simp only [ByteArray.size_append, one_size]
 omega
theorem i_FeatText {f : Feat} (h : wFeat f ≤ 1048576) : gf_ah9 f = some (if mFeat f = true then xFeat f else ⟨#[]⟩) := by
 unfold gf_ah9
 rw [i_FeatOk h]
 simp only [Option.bind_some]
 by_cases hm : mFeat f = true
 ·obtain ⟨h1, h2, h3, h4⟩ := feat_parts hm
  have a1 := mWord_size h1
  have a2 := xShape_size h2
  rw [hm, i_text h2, catS (by rw [one_size]; omega)]
  simp only [Bool.not_true, Bool.false_eq_true, if_false, if_true, Option.bind_some]
  rw [catS (by simp only [ByteArray.size_append, one_size]; omega)]
  simp only [Option.bind_some]
  rw [if_pos (fits_small (by omega)), loopT (gl := gl_ah9_1) (f := xTag) (M := 16) (B := 1000) (xs := f.tags) (fun _ _ => rfl) (fun x l k v hd hv => ?_) (fun x k hx _ => tag_size (h4 x hx)) f.tags 0 _ rfl (by simp only [ByteArray.size_append, one_size]; omega)]
  ·simp only [Option.bind_some, xFeat, ByteArray.append_assoc]
  ·have hx := h4 x (List.mem_of_getElem? (drop_get hd))
   rw [gl_ah9_1]
   rw [catS (by rw [one_size]; omega)]
   simp only [Option.bind_some]
   rw [catS (by simp only [ByteArray.size_append, one_size]; omega)]
   simp only [Option.bind_some]
   rw [catS (by simp only [ByteArray.size_append, one_size]; omega)]
   simp only [Option.bind_some]
   rw [catS (by simp only [ByteArray.size_append, one_size]; omega)]
   simp only [Option.bind_some, xTag, ByteArray.append_assoc]
 ·rw [Bool.not_eq_true] at hm
  rw [hm]
  rfl
theorem s_FeatText {f : Feat} (h : wFeat f ≤ 1048576) : gf_cg9 f = some (if mFeat f = true then xFeat f else ⟨#[]⟩) := by
 unfold gf_cg9
 rw [s_FeatOk h]
 simp only [Option.bind_some]
 by_cases hm : mFeat f = true
 ·obtain ⟨h1, h2, h3, h4⟩ := feat_parts hm
  have a1 := mWord_size h1
  have a2 := xShape_size h2
  rw [hm, s_text h2, catS (by rw [one_size]; omega)]
  simp only [Bool.not_true, Bool.false_eq_true, if_false, if_true, Option.bind_some]
  rw [catS (by simp only [ByteArray.size_append, one_size]; omega)]
  simp only [Option.bind_some]
  rw [if_pos (fits_small (by omega)), loopT (gl := gl_cg9_1) (f := xTag) (M := 16) (B := 1000) (xs := f.tags) (fun _ _ => rfl) (fun x l k v hd hv => ?_) (fun x k hx _ => tag_size (h4 x hx)) f.tags 0 _ rfl (by simp only [ByteArray.size_append, one_size]; omega)]
  ·simp only [Option.bind_some, xFeat, ByteArray.append_assoc]
  ·have hx := h4 x (List.mem_of_getElem? (drop_get hd))
   rw [gl_cg9_1]
   rw [catS (by rw [one_size]; omega)]
   simp only [Option.bind_some]
   rw [catS (by simp only [ByteArray.size_append, one_size]; omega)]
   simp only [Option.bind_some]
   rw [catS (by simp only [ByteArray.size_append, one_size]; omega)]
   simp only [Option.bind_some]
   rw [catS (by simp only [ByteArray.size_append, one_size]; omega)]
   simp only [Option.bind_some, xTag, ByteArray.append_assoc]
 ·rw [Bool.not_eq_true] at hm
  rw [hm]
  rfl
def xSide (had : Bool) (f : Feat) : Str := if had = true then (if mFeat f = true then xFeat f else ⟨#[]⟩) else ⟨#[45]⟩
theorem side_size {b : Bool} {f : Feat} : (xSide b f).size ≤ 340 := by
 unfold xSide
 split
 ·split
  ·exact xFeat_size ‹_›
  ·exact Nat.zero_le _
 ·decide
theorem i_xSide {b : Bool} {f : Feat} (h : wFeat f ≤ 1048576) : gf_ae9 b f = some (xSide b f) := by
 unfold gf_ae9 xSide
 rw [i_FeatText h]
 cases b <;> rfl
theorem s_xSide {b : Bool} {f : Feat} (h : wFeat f ≤ 1048576) : gf_ed9 f b = some (xSide b f) := by
 unfold gf_ed9 xSide
 rw [s_FeatText h]
 cases b <;> rfl
def xChange (c : Change) (_ : Nat) : Str := c.id ++ ((⟨#[58, 32]⟩ : Str) ++ (xSide c.had c.was ++ ((⟨#[32, 62, 32]⟩ : Str) ++ (xSide c.has c.now ++ (⟨#[10]⟩ : Str)))))
theorem two_size (c d : UInt8) : (⟨#[c, d]⟩ : Str).size = 2 := rfl
theorem three_size (c d e : UInt8) : (⟨#[c, d, e]⟩ : Str).size = 3 := rfl
theorem change_size {c : Change} {k : Nat} (h : c.id.size ≤ 7) : (xChange c k).size ≤ 700 := by
 unfold xChange
 have := side_size (b := c.had) (f := c.was)
 have := side_size (b := c.has) (f := c.now)
 simp only [ByteArray.size_append, one_size, two_size, three_size]
 omega
def xDiff (d : List Change) : Str := if mDiff d = true then tJ xChange d 0 else ⟨#[]⟩
theorem diff_parts {d : List Change} (h : mDiff d = true) : d.length ≤ 16 ∧ ∀ c ∈ d, c.id.size ≤ 7 := by
 refine ⟨?_, fun c hc => ?_⟩
 ·unfold mDiff at h
  rw [Bool.and_eq_true, decide_eq_true_eq] at h
  exact h.2
 ·have := mDiff_one h c hc
  unfold mOne at this
  rw [Bool.and_eq_true] at this
  exact mWord_size this.1
theorem xDiff_size {d : List Change} : (xDiff d).size ≤ 11200 := by
 unfold xDiff
 split
 ·obtain ⟨h1, h2⟩ := diff_parts ‹_›
  have := tJ_size (M := 700) (xs := d) (f := xChange) (fun x k hx _ => change_size (h2 x hx)) d 0 rfl
  omega
 ·exact Nat.zero_le _
theorem i_DiffText {d : List Change} (h : wL wChange d ≤ 1048576) : gf_ad9 d = some (xDiff d) := by
 unfold gf_ad9 xDiff
 rw [i_DiffOk h]
 simp only [Option.bind_some]
 by_cases hm : mDiff d = true
 ·obtain ⟨h1, h2⟩ := diff_parts hm
  rw [hm]
  simp only [Bool.not_true, Bool.false_eq_true, if_false, if_true]
  rw [if_pos (fits_small (by omega)), loopT (gl := gl_ae9) (f := xChange) (M := 700) (B := 20000) (xs := d) (fun _ _ => rfl) (fun x l k v hd hv => ?_) (fun x k hx _ => change_size (h2 x hx)) d 0 _ rfl (by show 0 + _ ≤ _; omega)]
  ·simp only [Option.bind_some]
   exact congrArg some ByteArray.empty_append
  ·have hx : x ∈ d := List.mem_of_getElem? (drop_get hd)
   have hs := sum_mem (w := wChange) hx
   unfold wL at h
   have e0 : wChange x = x.id.size + (wFeat x.was + (wFeat x.now + 0)) := rfl
   have a1 := h2 x hx
   have a2 := side_size (b := x.had) (f := x.was)
   have a3 := side_size (b := x.has) (f := x.now)
   rw [gl_ae9]
   simp only [i_xSide (f := x.was) (by omega), i_xSide (f := x.now) (by omega), Option.bind_some]
   rw [catS (by rw [two_size]; omega)]
   simp only [Option.bind_some]
   rw [catS (by simp only [ByteArray.size_append, one_size, two_size, three_size]; omega)]
   simp only [Option.bind_some]
   rw [catS (by simp only [ByteArray.size_append, one_size, two_size, three_size]; omega)]
   simp only [Option.bind_some]
   rw [catS (by simp only [ByteArray.size_append, one_size, two_size, three_size]; omega)]
   simp only [Option.bind_some]
   rw [catS (by simp only [ByteArray.size_append, one_size, two_size, three_size]; omega)]
   simp only [Option.bind_some]
   rw [catS (by simp only [ByteArray.size_append, one_size, two_size, three_size]; omega)]
   simp only [Option.bind_some, xChange, ByteArray.append_assoc]
 ·rw [Bool.not_eq_true] at hm
  rw [hm]
  rfl
theorem s_DiffText {d : List Change} (h : wL wChange d ≤ 1048576) : gf_cc9 d = some (xDiff d) := by
 have hlen : d.length ≤ 1048576 := by unfold wL at h; omega
 unfold gf_cc9 xDiff
 rw [if_pos (fits_small hlen)]
 by_cases hm : mDiff d = true
 ·obtain ⟨h1, h2⟩ := diff_parts hm
  rw [hm]
  simp only [if_true]
  rw [loopT (gl := gl_cc9_1 d) (f := xChange) (M := 700) (B := 20000) (xs := d) (fun _ _ => rfl) (fun x l k v hd hv => ?_) (fun x k hx _ => change_size (h2 x hx)) d 0 _ rfl (by show 0 + _ ≤ _; omega)]
  ·simp only [Option.bind_some]
   exact congrArg some ByteArray.empty_append
  ·have hx : x ∈ d := List.mem_of_getElem? (drop_get hd)
   have hs := sum_mem (w := wChange) hx
   have h' := h
   unfold wL at h'
   have e0 : wChange x = x.id.size + (wFeat x.was + (wFeat x.now + 0)) := rfl
   have a1 := h2 x hx
   have a2 := side_size (b := x.had) (f := x.was)
   have a3 := side_size (b := x.has) (f := x.now)
   rw [gl_cc9_1, s_DiffOk h, hm]
   simp only [s_xSide (f := x.was) (by omega), s_xSide (f := x.now) (by omega), Option.bind_some, if_true]
   rw [catS (by omega)]
   simp only [Option.bind_some]
   rw [catS (by simp only [ByteArray.size_append, one_size, two_size, three_size]; omega)]
   simp only [Option.bind_some]
   rw [catS (by simp only [ByteArray.size_append, one_size, two_size, three_size]; omega)]
   simp only [Option.bind_some]
   rw [catS (by simp only [ByteArray.size_append, one_size, two_size, three_size]; omega)]
   simp only [Option.bind_some]
   rw [catS (by simp only [ByteArray.size_append, one_size, two_size, three_size]; omega)]
   simp only [Option.bind_some]
   rw [catS (by simp only [ByteArray.size_append, one_size, two_size, three_size]; omega)]
   simp only [Option.bind_some, xChange, ByteArray.append_assoc]
 ·rw [Bool.not_eq_true] at hm
  rw [hm]
  cases d with
  | nil => rfl
  | cons x l =>
   rw [gl_cc9_1, s_DiffOk h, hm]
   rfl
def xUp (u : Int) (_ : Nat) : Str := (⟨#[32]⟩ : Str) ++ itoaS u
def xEntry (e : Entry) (k : Nat) : Str := itoaS (k : Int) ++ (tJ xUp e.up 0 ++ ((⟨#[32]⟩ : Str) ++ (e.note ++ ((⟨#[10]⟩ : Str) ++ xDiff e.diff))))
def xPack (l : List Entry) : Str := tJ xEntry l 0
structure OkPk (l : List Entry) : Prop where
 len : l.length ≤ 1048576
 up : ∀ e ∈ l, e.up.length ≤ 1048576
 note : ∀ e ∈ l, e.note.size ≤ 1048576
 diff : ∀ e ∈ l, wL wChange e.diff ≤ 1048576
 num : ∀ e ∈ l, ∀ u ∈ e.up, rI u
theorem up_size {u : Int} {k : Nat} (h : rI u) : (xUp u k).size ≤ 22 := by
 have := itoaS_size h
 unfold xUp
 simp only [ByteArray.size_append, one_size]
 omega
theorem rI_nat {k : Nat} (h : k ≤ 1048576) : rI (k : Int) := ⟨by omega, by omega⟩
theorem ups_size {l : List Int} (h : ∀ u ∈ l, rI u) : (tJ xUp l 0).size ≤ 22 * l.length := tJ_size (M := 22) (xs := l) (f := xUp) (fun x k hx _ => up_size (h x hx)) l 0 rfl
theorem entry_size {l : List Entry} (h : OkPk l) {e : Entry} {k : Nat} (he : e ∈ l) (hk : k < l.length) : (xEntry e k).size ≤ 33554432 := by
 have := h.len
 have := h.up e he
 have := h.note e he
 have := ups_size (h.num e he)
 have := itoaS_size (n := (k : Int)) (rI_nat (by omega))
 have := xDiff_size (d := e.diff)
 unfold xEntry
 simp only [ByteArray.size_append, one_size]
 omega
theorem i_PackText {l : List Entry} (h : OkPk l) : gf_aj9 l = some (xPack l) := by
 have hl := h.len
 unfold gf_aj9 xPack
 rw [if_pos (fits_small hl), loopT (gl := gl_aj9_4) (f := xEntry) (M := 33554432) (B := 1000000000000000) (xs := l) (fun _ _ => rfl) (fun x r k v hd hv => ?_) (fun x k hx hk => entry_size h hx hk) l 0 _ rfl (by show 0 + _ ≤ _; omega)]
 ·simp only [Option.bind_some]
  exact congrArg some ByteArray.empty_append
 ·have hx : x ∈ l := List.mem_of_getElem? (drop_get hd)
  have hk := drop_len hd
  have a1 := itoaS_size (n := (k : Int)) (rI_nat (by omega))
  have a2 := h.up x hx
  have a3 := h.note x hx
  have a4 := h.num x hx
  have a5 := ups_size a4
  have a6 := xDiff_size (d := x.diff)
  rw [gl_aj9_4]
  simp only [i_Itoa (n := (k : Int)) (rI_nat (by omega)), Option.bind_some]
  rw [catS (by omega)]
  simp only [Option.bind_some]
  rw [if_pos (fits_small a2), loopT (gl := gl_aj9_5) (f := xUp) (M := 22) (B := 2000000000000000) (xs := x.up) (fun _ _ => rfl) (fun y r k v hd hv => ?_) (fun y k hy _ => up_size (a4 y hy)) x.up 0 _ rfl (by simp only [ByteArray.size_append]; omega)]
  ·simp only [Option.bind_some]
   rw [catS (by rw [one_size]; omega)]
   simp only [Option.bind_some]
   rw [catS (by simp only [ByteArray.size_append, one_size]; omega)]
   simp only [Option.bind_some, i_DiffText (h.diff x hx)]
   rw [catS (by simp only [ByteArray.size_append, one_size]; omega)]
   simp only [Option.bind_some]
   rw [catS (by simp only [ByteArray.size_append, one_size]; omega)]
   simp only [Option.bind_some, xEntry, ByteArray.append_assoc]
  ·have b1 := a4 y (List.mem_of_getElem? (drop_get hd))
   have b2 := itoaS_size b1
   rw [gl_aj9_5, i_Itoa b1]
   simp only [Option.bind_some]
   rw [catS (by rw [one_size]; omega)]
   simp only [Option.bind_some]
   rw [catS (by simp only [ByteArray.size_append, one_size]; omega)]
   simp only [Option.bind_some, xUp]
theorem s_PackText {l : List Entry} (h : OkPk l) : gf_ci9 l = some (xPack l) := by
 have hl := h.len
 unfold gf_ci9 xPack
 rw [if_pos (fits_small hl), loopT (gl := gl_ci9_4) (f := xEntry) (M := 33554432) (B := 1000000000000000) (xs := l) (fun _ _ => rfl) (fun x r k v hd hv => ?_) (fun x k hx hk => entry_size h hx hk) l 0 _ rfl (by show 0 + _ ≤ _; omega)]
 ·simp only [Option.bind_some]
  exact congrArg some ByteArray.empty_append
 ·have hx : x ∈ l := List.mem_of_getElem? (drop_get hd)
  have hk := drop_len hd
  have a1 := itoaS_size (n := (k : Int)) (rI_nat (by omega))
  have a2 := h.up x hx
  have a3 := h.note x hx
  have a4 := h.num x hx
  have a5 := ups_size a4
  have a6 := xDiff_size (d := x.diff)
  rw [gl_ci9_4]
  simp only [s_l12Dec (n := (k : Int)) (rI_nat (by omega)), Option.bind_some]
  rw [catS (by omega)]
  simp only [Option.bind_some]
  rw [if_pos (fits_small a2), loopT (gl := gl_ci9_5) (f := xUp) (M := 22) (B := 2000000000000000) (xs := x.up) (fun _ _ => rfl) (fun y r k v hd hv => ?_) (fun y k hy _ => up_size (a4 y hy)) x.up 0 _ rfl (by simp only [ByteArray.size_append]; omega)]
  ·simp only [Option.bind_some]
   rw [catS (by simp only [ByteArray.size_append, one_size]; omega)]
   simp only [Option.bind_some]
   rw [catS (by simp only [ByteArray.size_append, one_size]; omega)]
   simp only [Option.bind_some]
   rw [catS (by simp only [ByteArray.size_append, one_size]; omega)]
   simp only [Option.bind_some, s_DiffText (h.diff x hx)]
   rw [catS (by simp only [ByteArray.size_append, one_size]; omega)]
   simp only [Option.bind_some, xEntry, ByteArray.append_assoc]
  ·have b1 := a4 y (List.mem_of_getElem? (drop_get hd))
   have b2 := itoaS_size b1
   rw [gl_ci9_5, s_l12Dec b1]
   rw [catS (by rw [one_size]; omega)]
   simp only [Option.bind_some]
   rw [catS (by simp only [ByteArray.size_append, one_size]; omega)]
   simp only [Option.bind_some, xUp, ByteArray.append_assoc]
theorem findT {α : Type} {p : α → Prop} [DecidablePred p] {xs : List α} {x : α} (h : xs.find? (fun y => decide (p y)) = some x) : p x := of_decide_eq_true (List.find?_some (p := fun y => decide (p y)) h)
theorem nodup_ix {α β : Type} {f : α → β} {xs : List α} (h : (xs.map f).Nodup) {i j : Nat} {x y : α} (hi : xs[i]? = some x) (hj : xs[j]? = some y) (e : f x = f y) : i = j :=
 (List.getElem?_inj (by have := (List.getElem?_eq_some_iff.1 hi).1; simpa using this) h).1 (by rw [List.getElem?_map, List.getElem?_map, hi, hj]; simp [e])
theorem nodup_feat {v : List Feat} (h : (v.map (·.id)).Nodup) : v.Nodup := List.Pairwise.of_map (·.id) (fun a b h e => h (congrArg _ e)) h
theorem side_some {s : List Feat} {f : Feat} (hp : Pw s) (h : f ∈ s) : mSide s f.id = (f, true) := by
 unfold mSide
 cases hf : s.find? (fun g : Feat => decide (g.id = f.id)) with
 | none =>
  have := List.find?_eq_none.1 hf f h
  simp at this
 | some g =>
  have h1 := List.mem_of_find?_eq_some hf
  have h2 := findT (p := fun g : Feat => g.id = f.id) hf
  obtain ⟨i, hi⟩ := List.mem_iff_getElem?.1 h1
  obtain ⟨j, hj⟩ := List.mem_iff_getElem?.1 h
  have e : i = j := nodup_ix (pw_nodup hp) hi hj h2
  subst e
  rw [hi] at hj
  cases hj
  rfl
theorem side_cases (s : List Feat) (i : Str) : (mSide s i = (nF, false) ∧ ∀ f ∈ s, f.id ≠ i) ∨ ∃ f ∈ s, f.id = i ∧ mSide s i = (f, true) := by
 unfold mSide
 cases hf : s.find? (fun g : Feat => decide (g.id = i)) with
 | none => exact .inl ⟨rfl, fun f h => by simpa using List.find?_eq_none.1 hf f h⟩
 | some g => exact .inr ⟨g, List.mem_of_find?_eq_some hf, findT (p := fun g : Feat => g.id = i) hf, rfl⟩
theorem side_none {s : List Feat} {i : Str} (h : ∀ f ∈ s, f.id ≠ i) : mSide s i = (nF, false) := by
 rcases side_cases s i with ⟨h1, _⟩ | ⟨f, hf, he, _⟩
 ·exact h1
 ·exact absurd he (h f hf)
theorem side_of {s : List Feat} {f : Feat} {i : Str} (hp : Pw s) (h : f ∈ s) (e : f.id = i) : mSide s i = (f, true) := e ▸ side_some hp h
theorem pw_ext {v w : List Feat} (hv : Pw v) (hw : Pw w) (h : ∀ i, mSide v i = mSide w i) : v = w := by
 have key : ∀ {a b : List Feat}, Pw a → Pw b → (∀ i, mSide a i = mSide b i) → ∀ x, x ∈ a → x ∈ b := by
  intro a b ha hb h x hx
  have h1 := side_some ha hx
  rw [h] at h1
  rcases side_cases b x.id with ⟨h2, _⟩ | ⟨f, hf, _, h2⟩
  ·rw [h2] at h1; cases h1
  ·rw [h2] at h1; cases h1; exact hf
 have hp : v.Perm w := (List.perm_ext_iff_of_nodup (nodup_feat (pw_nodup hv)) (nodup_feat (pw_nodup hw))).2 fun x => ⟨key hv hw h x, key hw hv (fun i => (h i).symm) x⟩
 refine List.Perm.eq_of_pairwise (le := fun (a b : Feat) => slt a.id b.id = true) (fun x y _ _ g1 g2 => ?_) hv hw hp
 have := slt_sw.trans _ _ _ g1 g2
 rw [slt_sw.irrefl] at this
 cases this
theorem cut_mem {v : List Feat} {i : Str} {f : Feat} : f ∈ mCutF v i ↔ f ∈ v ∧ f.id ≠ i := by
 unfold mCutF
 rw [List.mem_filter]
 simp
theorem cut_pw {v : List Feat} {i : Str} (h : Pw v) : Pw (mCutF v i) := List.Pairwise.filter _ h
theorem side_cut {v : List Feat} {i j : Str} (h : Pw v) : mSide (mCutF v i) j = if j = i then (nF, false) else mSide v j := by
 by_cases e : j = i
 ·rw [if_pos e]
  exact side_none fun f hf => by rw [e]; exact (cut_mem.1 hf).2
 ·rw [if_neg e]
  rcases side_cases v j with ⟨h1, h2⟩ | ⟨f, hf, he, h1⟩
  ·rw [h1]
   exact side_none fun f hf => h2 f (cut_mem.1 hf).1
  ·rw [h1]
   exact side_of (cut_pw h) (cut_mem.2 ⟨hf, by rw [he]; exact e⟩) he
theorem put_mem {f : Feat} {v : List Feat} {x : Feat} : x ∈ mPut f v ↔ x = f ∨ (x ∈ v ∧ x.id ≠ f.id) := by
 rw [mPut_perm.mem_iff, List.mem_cons, cut_mem]
theorem side_put {v : List Feat} {f : Feat} {j : Str} (h : Pw v) : mSide (mPut f v) j = if j = f.id then (f, true) else mSide v j := by
 by_cases e : j = f.id
 ·rw [if_pos e]
  exact side_of (mPut_pw h) (put_mem.2 (.inl rfl)) e.symm
 ·rw [if_neg e]
  rcases side_cases v j with ⟨h1, h2⟩ | ⟨x, hx, he, h1⟩
  ·rw [h1]
   refine side_none fun x hx => ?_
   rcases put_mem.1 hx with rfl | hx
   ·exact fun h => e h.symm
   ·exact h2 x hx.1
  ·rw [h1]
   exact side_of (mPut_pw h) (put_mem.2 (.inr ⟨hx, by rw [he]; exact e⟩)) he
theorem one_no {c : Change} (h : mOne c = true) (h2 : c.has = false) : c.now = nF := by
 unfold mOne mSideOk at h
 simp only [Bool.and_eq_true] at h
 have h3 := h.2.2.1
 rw [h2] at h3
 simpa using h3
theorem side_step {v : List Feat} {c : Change} {j : Str} (h : Pw v) (hc : mOne c = true) : mSide (mStep v c) j = if j = c.id then (c.now, c.has) else mSide v j := by
 unfold mStep
 cases hh : c.has with
 | true => rw [if_pos rfl, side_put h, one_now hc hh]
 | false => rw [if_neg (by simp), side_cut h, one_no hc hh]
theorem side_fold : ∀ {d : List Change} {v : List Feat} {j : Str}, Pw v → (∀ c ∈ d, mOne c = true) → (d.map (·.id)).Nodup → mSide (d.foldl mStep v) j = match d.find? (fun c : Change => decide (c.id = j)) with
  | some c => (c.now, c.has)
  | none => mSide v j
 | [], v, j, _, _, _ => rfl
 | c :: d, v, j, hp, h1, hn => by
  rw [List.map_cons, List.nodup_cons] at hn
  rw [List.foldl_cons, side_fold (step_pw hp) (fun c hc => h1 c (by simp [hc])) hn.2, List.find?_cons]
  by_cases e : c.id = j
  ·have hnone : d.find? (fun c : Change => decide (c.id = j)) = none := List.find?_eq_none.2 fun x hx => by
    simp only [decide_eq_true_eq]
    exact fun h => hn.1 (List.mem_map.2 ⟨x, hx, h.trans e.symm⟩)
   rw [hnone, side_step hp (h1 c (by simp)), if_pos e.symm]
   simp [e]
  ·simp only [e, decide_false]
   cases d.find? (fun c : Change => decide (c.id = j)) with
   | some x => rfl
   | none => simp only; rw [side_step hp (h1 c (by simp)), if_neg (fun h => e h.symm)]
def CPw (d : List Change) : Prop := d.Pairwise fun a b => slt a.id b.id = true
theorem cpw_nodup {d : List Change} (h : CPw d) : (d.map (·.id)).Nodup := by
 unfold List.Nodup
 rw [List.pairwise_map]
 exact h.imp fun h => slt_ne h
theorem sheet_feat {s : List Feat} (h : mSheet s = true) {f : Feat} (hf : f ∈ s) : mFeat f = true := by
 unfold mSheet at h
 rw [Bool.and_eq_true] at h
 obtain ⟨j, hj⟩ := allF h.1 hf
 rw [Bool.and_eq_true] at hj
 exact hj.1
theorem side_ok {s : List Feat} (h : mSheet s = true) (i : Str) : mSideOk i (mSide s i).2 (mSide s i).1 = true := by
 rcases side_cases s i with ⟨h1, _⟩ | ⟨f, hf, he, h1⟩
 ·rw [h1]
  simp [mSideOk]
 ·rw [h1]
  simp [mSideOk, sheet_feat h hf, he]
theorem ids_mem {a b : List Feat} {i : Str} : i ∈ mIds a b ↔ i ∈ a.map (·.id) ∨ i ∈ b.map (·.id) := fold_mem
theorem ids_word {a b : List Feat} (ha : mSheet a = true) (hb : mSheet b = true) {i : Str} (h : i ∈ mIds a b) : mWord i = true := by
 have key : ∀ {s : List Feat}, mSheet s = true → i ∈ s.map (·.id) → mWord i = true := by
  intro s hs hi
  obtain ⟨f, hf, rfl⟩ := List.mem_map.1 hi
  have := sheet_feat hs hf
  unfold mFeat at this
  rw [Bool.and_eq_true] at this
  exact this.1
 rcases ids_mem.1 h with h | h
 ·exact key ha h
 ·exact key hb h
theorem df_mem {a b : List Feat} {c : Change} : c ∈ mDf a b ↔ ∃ i ∈ mIds a b, mSide a i ≠ mSide b i ∧ c = mCh a b i := by
 unfold mDf
 rw [List.mem_filterMap]
 constructor
 ·rintro ⟨i, hi, h⟩
  split at h
  ·cases h
  ·rename_i hn
   cases h
   exact ⟨i, hi, hn, rfl⟩
 ·rintro ⟨i, hi, hn, rfl⟩
  exact ⟨i, hi, by rw [if_neg hn]⟩
theorem ids_of_ne {a b : List Feat} {i : Str} (h : mSide a i ≠ mSide b i) : i ∈ mIds a b := by
 rw [ids_mem]
 rcases side_cases a i with ⟨h1, _⟩ | ⟨f, hf, he, _⟩
 ·rcases side_cases b i with ⟨h2, _⟩ | ⟨f, hf, he, _⟩
  ·rw [h1, h2] at h; exact absurd rfl h
  ·exact .inr (List.mem_map.2 ⟨f, hf, he⟩)
 ·exact .inl (List.mem_map.2 ⟨f, hf, he⟩)
theorem df_one {a b : List Feat} (ha : mSheet a = true) (hb : mSheet b = true) {c : Change} (h : c ∈ mDf a b) : mOne c = true := by
 obtain ⟨i, hi, hn, rfl⟩ := df_mem.1 h
 unfold mOne mCh
 simp only [Bool.and_eq_true]
 refine ⟨ids_word ha hb hi, side_ok ha i, side_ok hb i, ?_⟩
 rw [Bool.not_eq_true', Bool.and_eq_false_iff]
 by_cases e : (mSide a i).2 = (mSide b i).2
 ·right
  rw [decide_eq_false_iff_not]
  exact fun e2 => hn (side_ne.2 ⟨e, e2⟩)
 ·left
  simpa using e
theorem df_pw {a b : List Feat} (ha : Pw a) : CPw (mDf a b) := by
 have h := mIds_pw (b := b) ha
 unfold CPw mDf
 unfold SPw at h
 rw [List.pairwise_filterMap]
 refine h.imp fun {x y} hxy c hc c' hc' => ?_
 split at hc
 ·cases hc
 ·cases hc
  split at hc'
  ·cases hc'
  ·cases hc'
   exact hxy
theorem df_ok {a b : List Feat} (ha : mSheet a = true) (hb : mSheet b = true) : mDiff (mDf a b) = true := by
 have hp := df_pw (b := b) (mSheet_pw ha)
 unfold mDiff
 rw [Bool.and_eq_true, decide_eq_true_eq]
 refine ⟨allFrom_mk fun j x hx => ?_, (mDf_b ha hb).1⟩
 rw [Bool.and_eq_true]
 refine ⟨df_one ha hb (List.mem_of_getElem? hx), ?_⟩
 rw [Nat.zero_add, Bool.or_eq_true, decide_eq_true_eq]
 rcases Nat.eq_zero_or_pos j with h0 | h0
 ·exact .inl h0
 ·right
  have hl := (List.getElem?_eq_some_iff.1 hx).1
  unfold mPrev
  rw [List.getElem?_eq_getElem (by omega : j - 1 < (mDf a b).length)]
  simp only
  have := List.pairwise_iff_getElem.1 hp (j - 1) j (by omega) hl (by omega)
  rwa [(List.getElem?_eq_some_iff.1 hx).2] at this
theorem fold_step_pw : ∀ {d : List Change} {v : List Feat}, Pw v → Pw (d.foldl mStep v)
 | [], _, h => h
 | c :: d, v, h => fold_step_pw (d := d) (step_pw h)
theorem df_fold {a b : List Feat} (ha : mSheet a = true) (hb : mSheet b = true) : (mDf a b).foldl mStep a = b := by
 have hp := mSheet_pw ha
 refine pw_ext (fold_step_pw hp) (mSheet_pw hb) fun i => ?_
 rw [side_fold hp (fun c hc => df_one ha hb hc) (cpw_nodup (df_pw hp))]
 cases hf : (mDf a b).find? (fun c : Change => decide (c.id = i)) with
 | some c =>
  have h1 := List.mem_of_find?_eq_some hf
  have h2 := findT (p := fun c : Change => c.id = i) hf
  obtain ⟨k, _, _, rfl⟩ := df_mem.1 h1
  have h2 : k = i := h2
  subst h2
  rfl
 | none =>
  simp only
  apply Classical.byContradiction
  intro hn
  have := List.find?_eq_none.1 hf _ (df_mem.2 ⟨i, ids_of_ne hn, hn, rfl⟩)
  simp [mCh] at this
theorem do_df {a b : List Feat} (ha : mSheet a = true) (hb : mSheet b = true) : mDo a (mDf a b) = (b, true) := by
 have h1 := df_fold ha hb
 unfold mDo
 rw [h1, if_pos]
 rw [ha, df_ok ha hb, hb, Bool.true_and, Bool.true_and, Bool.and_true, List.all_eq_true]
 intro c hc
 obtain ⟨i, _, _, rfl⟩ := df_mem.1 hc
 unfold mFits mCh
 exact decide_eq_true rfl
theorem pack_get {r : Repo} {k : Nat} {e : Entry} (h : (mPack r)[k]? = some e) : mRepo r = true ∧ ∃ c, r.commits[k]? = some c ∧ e = ⟨c.up, c.note, mDf (pWas r.commits c.up) c.sheet⟩ := by
 unfold mPack at h
 split at h
 ·rename_i hr
  rw [List.getElem?_map, Option.map_eq_some_iff] at h
  obtain ⟨c, h1, rfl⟩ := h
  exact ⟨hr, c, h1, rfl⟩
 ·simp at h
theorem pack_len {r : Repo} (hr : mRepo r = true) : (mPack r).length = r.commits.length := by
 unfold mPack
 rw [if_pos hr, List.length_map]
theorem repo_lens {r : Repo} (hr : mRepo r = true) : 1 ≤ r.commits.length ∧ r.commits.length ≤ 14 ∧ r.heads.length ≤ 4 := by
 unfold mRepo at hr
 simp only [Bool.and_eq_true, decide_eq_true_eq] at hr
 exact ⟨hr.1, hr.2.1, hr.2.2.2.1⟩
theorem repo_note {r : Repo} (h : mRepo r = true) {c : Commit} (hc : c ∈ r.commits) : mWord c.note = true := by
 unfold mRepo mCommits at h
 simp only [Bool.and_eq_true] at h
 obtain ⟨j, hj⟩ := allF h.2.2.2.2.1 hc
 simp only [Bool.and_eq_true] at hj
 exact hj.2.2.1
theorem up_parts {up : List Int} {k : Nat} (h : mUp up k = true) : up.length ≤ 2 ∧ (0 < up.length ↔ 0 < k) ∧ ∀ u ∈ up, 0 ≤ u ∧ u < (k : Int) := by
 unfold mUp at h
 simp only [Bool.and_eq_true, decide_eq_true_eq, beq_iff_eq, decide_eq_decide] at h
 refine ⟨h.2.1, h.2.2.1, fun u hu => ?_⟩
 obtain ⟨j, hj⟩ := allF h.1 hu
 simpa using hj
theorem pack_ok {r : Repo} : OkPk (mPack r) := by
 have key : ∀ e ∈ mPack r, e.up.length ≤ 1048576 ∧ e.note.size ≤ 1048576 ∧ wL wChange e.diff ≤ 1048576 ∧ ∀ u ∈ e.up, rI u := fun e he => by
  obtain ⟨k, hk⟩ := List.mem_iff_getElem?.1 he
  obtain ⟨hr, c, hc, rfl⟩ := pack_get hk
  have hm := List.mem_of_getElem? hc
  obtain ⟨h1, h2, h3⟩ := up_parts (mRepo_up (cs := r.commits) (hs := r.heads) hr k c hc)
  have h4 := mWord_size (repo_note hr hm)
  have h5 := (mDf_b (was_sheet hr c.up) (repo_sheet hr c hm)).2
  have hl := repo_lens hr
  have hk := get_lt hc
  refine ⟨by simp only; omega, by simp only; omega, by simp only; omega, fun u hu => ?_⟩
  have := h3 u hu
  exact ⟨by omega, by omega⟩
 refine ⟨?_, fun e he => (key e he).1, fun e he => (key e he).2.1, fun e he => (key e he).2.2.1, fun e he => (key e he).2.2.2⟩
 by_cases hr : mRepo r = true
 ·rw [pack_len hr]
  have := repo_lens hr
  omega
 ·unfold mPack
  rw [if_neg hr]
  exact Nat.zero_le _
theorem was_take {cs : List Commit} {up : List Int} {k : Nat} (h : ∀ u ∈ up, 0 ≤ u ∧ u < (k : Int)) : pWas (cs.take k) up = pWas cs up := by
 unfold pWas
 split
 ·rfl
 ·rename_i u l
  have := h u (by simp)
  rw [List.getElem?_take, if_pos (by omega)]
theorem open_take {r : Repo} (hr : mRepo r = true) : ∀ (l : List Commit) (k : Nat), r.commits.drop k = l → pOpen pUp (l.map fun c => (⟨c.up, c.note, mDf (pWas r.commits c.up) c.sheet⟩ : Entry)) (r.commits.take k) = some r.commits
 | [], k, h => by
  have : r.commits.length ≤ k := by simpa using h
  rw [List.map_nil, List.take_of_length_le this]
  rfl
 | c :: l, k, h => by
  have hc := drop_get h
  have hk := get_lt hc
  have hm := List.mem_of_getElem? hc
  have hu := mRepo_up (cs := r.commits) (hs := r.heads) hr k c hc
  have h3 := (up_parts hu).2.2
  have e1 : (r.commits.take k).length = k := by rw [List.length_take]; omega
  have e2 := do_df (was_sheet hr c.up) (repo_sheet hr c hm)
  rw [List.map_cons, pOpen, e1, was_take h3, e2, if_pos (by rw [mUp_p hu]; rfl)]
  have e3 : pNew (r.commits.take k) ⟨c.up, c.note, mDf (pWas r.commits c.up) c.sheet⟩ = r.commits.take (k + 1) := by
   unfold pNew
   simp only [was_take h3, e2]
   rw [List.take_add_one, hc]
   rfl
  rw [e3]
  exact open_take hr l (k + 1) (drop_next h)
theorem open_pack {r : Repo} (hr : mRepo r = true) : mOpen (mPack r) r.heads = (r, true) := by
 have h := open_take hr r.commits 0 rfl
 have hl := repo_lens hr
 have e : mPack r = r.commits.map fun c => (⟨c.up, c.note, mDf (pWas r.commits c.up) c.sheet⟩ : Entry) := by
  unfold mPack
  rw [if_pos hr]
 unfold mOpen
 rw [if_pos (by rw [pack_len hr]; exact hl.2.1), e]
 rw [show (r.commits.take 0) = [] from rfl] at h
 rw [h]
 simp only
 rw [if_pos hr]
def lb (s : Str) : List UInt8 := s.data.toList
theorem lb_app {a b : Str} : lb (a ++ b) = lb a ++ lb b := by simp [lb]
theorem lb_inj {a b : Str} (h : lb a = lb b) : a = b := ByteArray.ext (Array.ext' h)
theorem lb_itoa {n : Int} : lb (itoaS n) = Go.Lib.itoa n := by simp [lb, itoaS]
theorem lb_tJ' {α : Type} {f : α → Nat → Str} {g : α → List UInt8} (hf : ∀ x k, lb (f x k) = g x) : ∀ (l : List α) (k : Nat), lb (tJ f l k) = l.flatMap g
 | [], k => rfl
 | x :: l, k => by
  show lb (f x k ++ tJ f l (k + 1)) = _
  rw [lb_app, lb_tJ' hf l (k + 1), hf, List.flatMap_cons]
theorem cut1 {c : UInt8} : ∀ {a b r s : List UInt8}, a ++ c :: r = b ++ c :: s → (∀ x ∈ a, x ≠ c) → (∀ x ∈ b, x ≠ c) → a = b ∧ r = s
 | [], [], r, s, h, _, _ => ⟨rfl, by simpa using h⟩
 | [], y :: b, r, s, h, _, hb => by
  simp only [List.nil_append, List.cons_append, List.cons.injEq] at h
  exact absurd h.1.symm (hb y (by simp))
 | x :: a, [], r, s, h, ha, _ => by
  simp only [List.nil_append, List.cons_append, List.cons.injEq] at h
  exact absurd h.1 (ha x (by simp))
 | x :: a, y :: b, r, s, h, ha, hb => by
  simp only [List.cons_append, List.cons.injEq] at h
  obtain ⟨h1, h2⟩ := cut1 h.2 (fun z hz => ha z (by simp [hz])) (fun z hz => hb z (by simp [hz]))
  exact ⟨by rw [h.1, h1], h2⟩
theorem ends {c : UInt8} : ∀ {l m : List (List UInt8)}, l.flatMap (fun w => w ++ [c]) = m.flatMap (fun w => w ++ [c]) → (∀ w ∈ l, ∀ x ∈ w, x ≠ c) → (∀ w ∈ m, ∀ x ∈ w, x ≠ c) → l = m
 | [], [], _, _, _ => rfl
 | [], y :: m, h, _, _ => by simp at h
 | x :: l, [], h, _, _ => by simp at h
 | x :: l, y :: m, h, hl, hm => by
  rw [List.flatMap_cons, List.flatMap_cons, List.append_assoc, List.append_assoc] at h
  obtain ⟨h1, h2⟩ := cut1 (c := c) h (hl x (by simp)) (hm y (by simp))
  rw [h1, ends h2 (fun w hw => hl w (by simp [hw])) (fun w hw => hm w (by simp [hw]))]
theorem begins {c : UInt8} {l m : List (List UInt8)} (h : l.flatMap (fun w => c :: w) = m.flatMap (fun w => c :: w)) (hl : ∀ w ∈ l, ∀ x ∈ w, x ≠ c) (hm : ∀ w ∈ m, ∀ x ∈ w, x ≠ c) : l = m := by
 have key : ∀ (l : List (List UInt8)), l.flatMap (fun w => c :: w) ++ [c] = c :: l.flatMap (fun w => w ++ [c]) := by
  intro l
  induction l with
  | nil => rfl
  | cons x l ih => rw [List.flatMap_cons, List.append_assoc, ih, List.flatMap_cons]; simp
 have h2 := congrArg (· ++ [c]) h
 simp only [key, List.cons.injEq, true_and] at h2
 exact ends h2 hl hm
theorem kinds {α : Type} {p : α → Bool} : ∀ {a b r s : List α}, a ++ r = b ++ s → (∀ x ∈ a, p x = true) → (∀ x ∈ b, p x = true) → (∀ x, r.head? = some x → p x = false) → (∀ x, s.head? = some x → p x = false) → a = b ∧ r = s
 | [], [], r, s, h, _, _, _, _ => ⟨rfl, by simpa using h⟩
 | [], y :: b, r, s, h, _, hb, hr, _ => by
  simp only [List.nil_append, List.cons_append] at h
  have := hr y (by rw [h]; rfl)
  rw [hb y (by simp)] at this
  cases this
 | x :: a, [], r, s, h, ha, _, _, hs => by
  simp only [List.nil_append, List.cons_append] at h
  have := hs x (by rw [← h]; rfl)
  rw [ha x (by simp)] at this
  cases this
 | x :: a, y :: b, r, s, h, ha, hb, hr, hs => by
  simp only [List.cons_append, List.cons.injEq] at h
  obtain ⟨h1, h2⟩ := kinds h.2 (fun z hz => ha z (by simp [hz])) (fun z hz => hb z (by simp [hz])) hr hs
  exact ⟨by rw [h.1, h1], h2⟩
def dval (l : List UInt8) : Nat := l.foldl (fun a d => a * 10 + (d.toNat - 48)) 0
theorem dig_nat {k : Nat} (h : k < 10) : (UInt8.ofNat (48 + k)).toNat = 48 + k := by rw [UInt8.toNat_ofNat']; omega
theorem dval_dec (u : Nat) : dval (Go.Lib.decDigits u) = u := by
 induction u using Nat.strongRecOn with
 | _ u ih =>
  rw [Go.Lib.decDigits]
  by_cases h : u < 10
  ·rw [dif_pos h]
   simp only [dval, List.foldl_cons, List.foldl_nil, dig_nat h]
   omega
  ·rw [dif_neg h]
   have := ih (u / 10) (by omega)
   unfold dval at this ⊢
   rw [List.foldl_append, this]
   simp only [List.foldl_cons, List.foldl_nil, dig_nat (Nat.mod_lt u (by decide : 0 < 10))]
   omega
def isD (c : UInt8) : Prop := 48 ≤ c.toNat ∧ c.toNat ≤ 57
def isL (c : UInt8) : Prop := 97 ≤ c.toNat ∧ c.toNat ≤ 122
theorem dec_dig (u : Nat) : ∀ c ∈ Go.Lib.decDigits u, isD c := by
 induction u using Nat.strongRecOn with
 | _ u ih =>
  rw [Go.Lib.decDigits]
  by_cases h : u < 10
  ·rw [dif_pos h]
   intro c hc
   rw [List.mem_singleton.1 hc]
   unfold isD
   rw [dig_nat h]
   omega
  ·rw [dif_neg h]
   intro c hc
   rcases List.mem_append.1 hc with hc | hc
   ·exact ih (u / 10) (by omega) c hc
   ·rw [List.mem_singleton.1 hc]
    have := Nat.mod_lt u (by decide : 0 < 10)
    unfold isD
    rw [dig_nat this]
    omega
theorem dec_ne (u : Nat) : Go.Lib.decDigits u ≠ [] := by
 rw [Go.Lib.decDigits]
 split <;> simp
theorem itoa_chr (n : Int) : ∀ c ∈ Go.Lib.itoa n, c = 45 ∨ isD c := by
 intro c hc
 unfold Go.Lib.itoa at hc
 split at hc
 ·rcases List.mem_cons.1 hc with h | h
  ·exact .inl h
  ·exact .inr (dec_dig _ c h)
 ·exact .inr (dec_dig _ c hc)
theorem itoa_ne (n : Int) : Go.Lib.itoa n ≠ [] := by
 unfold Go.Lib.itoa
 split
 ·simp
 ·exact dec_ne _
theorem d45 {c : UInt8} (h : isD c) : c ≠ 45 := fun e => by rw [e] at h; exact absurd h.1 (by decide)
theorem itoa_inj {n m : Int} (h : Go.Lib.itoa n = Go.Lib.itoa m) : n = m := by
 have hd : ∀ u, ∃ c r, Go.Lib.decDigits u = c :: r ∧ c ≠ 45 := fun u => by
  cases hh : Go.Lib.decDigits u with
  | nil => exact absurd hh (dec_ne u)
  | cons c r => exact ⟨c, r, rfl, d45 (dec_dig u c (by rw [hh]; simp))⟩
 unfold Go.Lib.itoa at h
 by_cases h1 : n < 0 <;> by_cases h2 : m < 0
 ·rw [if_pos h1, if_pos h2] at h
  simp only [List.cons.injEq, true_and] at h
  have := congrArg dval h
  rw [dval_dec, dval_dec] at this
  omega
 ·rw [if_pos h1, if_neg h2] at h
  obtain ⟨c, r, e, hc⟩ := hd m.toNat
  rw [e] at h
  simp only [List.cons.injEq] at h
  exact absurd h.1.symm hc
 ·rw [if_neg h1, if_pos h2] at h
  obtain ⟨c, r, e, hc⟩ := hd n.toNat
  rw [e] at h
  simp only [List.cons.injEq] at h
  exact absurd h.1 hc
 ·rw [if_neg h1, if_neg h2] at h
  have := congrArg dval h
  rw [dval_dec, dval_dec] at this
  omega
theorem word_chr {s : Str} (h : mWord s = true) : (∀ c ∈ lb s, isL c) ∧ lb s ≠ [] := by
 unfold mWord at h
 simp only [Bool.and_eq_true, decide_eq_true_eq] at h
 refine ⟨fun c hc => ?_, fun e => ?_⟩
 ·obtain ⟨j, hj⟩ := allF h.1 hc
  simpa [isL] using hj
 ·have : s.size = 0 := by
   show s.data.size = 0
   rw [← Array.length_toList]
   exact congrArg List.length e
  omega
theorem isL_ne {c d : UInt8} (h : isL c) (hd : d.toNat < 97) : c ≠ d := fun e => by rw [e] at h; exact absurd h.1 (by omega)
theorem num_ne {c d : UInt8} (h : c = 45 ∨ isD c) (h1 : d ≠ 45) (h2 : d.toNat < 48 ∨ 57 < d.toNat) : c ≠ d := fun e => by
 subst e
 rcases h with h | h
 ·exact h1 h
 ·unfold isD at h
  omega
def wPt (p : Pt) : List UInt8 := Go.Lib.itoa p.x ++ 44 :: Go.Lib.itoa p.y
def wTg (t : Tag) : List UInt8 := lb t.key ++ 61 :: lb t.val
theorem lb_pts (l : List Pt) (k : Nat) : lb (tJ xPt l k) = (l.map wPt).flatMap (fun w => 32 :: w) := by
 rw [List.flatMap_map]
 refine lb_tJ' (fun p k => ?_) l k
 unfold xPt wPt
 rw [lb_app, lb_app, lb_app, lb_itoa, lb_itoa]
 rfl
theorem lb_tags (l : List Tag) (k : Nat) : lb (tJ xTag l k) = (l.map wTg).flatMap (fun w => 32 :: w) := by
 rw [List.flatMap_map]
 refine lb_tJ' (fun p k => ?_) l k
 unfold xTag wTg
 rw [lb_app, lb_app, lb_app]
 rfl
theorem lb_feat (f : Feat) : lb (xFeat f) = lb f.id ++ 32 :: (lb (xName f.shape.kind) ++ (f.shape.pts.map wPt ++ f.tags.map wTg).flatMap (fun w => 32 :: w)) := by
 unfold xFeat xShape
 rw [lb_app, lb_app, lb_app, lb_app, lb_pts, lb_tags, List.flatMap_append, List.append_assoc]
 rfl
instance (c : UInt8) : Decidable (isL c) := inferInstanceAs (Decidable (_ ∧ _))
theorem name_chr (k : Int) : ∀ c ∈ lb (xName k), isL c := by
 unfold xName
 split
 ·show ∀ c ∈ [100, 111, 116], isL c
  decide
 ·split
  ·show ∀ c ∈ [108, 105, 110, 101], isL c
   decide
  ·show ∀ c ∈ [114, 105, 110, 103], isL c
   decide
theorem wPt_chr (p : Pt) : ∀ c ∈ wPt p, c = 44 ∨ c = 45 ∨ isD c := by
 intro c hc
 unfold wPt at hc
 rcases List.mem_append.1 hc with h | h
 ·exact .inr (itoa_chr _ c h)
 ·rcases List.mem_cons.1 h with h | h
  ·exact .inl h
  ·exact .inr (itoa_chr _ c h)
theorem tag_words {f : Feat} (h : mFeat f = true) : ∀ t ∈ f.tags, mWord t.key = true ∧ mWord t.val = true := fun t ht => by
 unfold mFeat mTags at h
 simp only [Bool.and_eq_true] at h
 obtain ⟨j, hj⟩ := allF h.2.2.1 ht
 simp only [Bool.and_eq_true] at hj
 exact ⟨hj.1, hj.2.1⟩
theorem wTg_chr {t : Tag} (h : mWord t.key = true ∧ mWord t.val = true) : ∀ c ∈ wTg t, c = 61 ∨ isL c := by
 intro c hc
 unfold wTg at hc
 rcases List.mem_append.1 hc with g | g
 ·exact .inr ((word_chr h.1).1 c g)
 ·rcases List.mem_cons.1 g with g | g
  ·exact .inl g
  ·exact .inr ((word_chr h.2).1 c g)
theorem pts_ne {s : Shape} (h : mShape s = true) : s.pts ≠ [] := by
 intro e
 unfold mShape at h
 rw [e] at h
 simp only [Bool.and_eq_true, List.length_nil] at h
 have h2 := h.2.2
 by_cases h1 : s.kind = 1
 ·simp [h1] at h2
 ·by_cases h3 : s.kind = 2
  ·simp [h3] at h2
  ·by_cases h4 : s.kind = 3
   ·simp [h4] at h2
   ·simp [h1, h3, h4] at h2
theorem wPt_inj {p q : Pt} (h : wPt p = wPt q) : p = q := by
 unfold wPt at h
 have key : ∀ n : Int, ∀ x ∈ Go.Lib.itoa n, x ≠ 44 := fun n x hx => num_ne (itoa_chr n x hx) (by decide) (by decide)
 obtain ⟨h1, h2⟩ := cut1 h (key _) (key _)
 cases p
 cases q
 simp only at h1 h2
 rw [itoa_inj h1, itoa_inj h2]
theorem wTg_inj {t u : Tag} (ht : mWord t.key = true ∧ mWord t.val = true) (hu : mWord u.key = true ∧ mWord u.val = true) (h : wTg t = wTg u) : t = u := by
 unfold wTg at h
 obtain ⟨h1, h2⟩ := cut1 h (fun x hx => isL_ne ((word_chr ht.1).1 x hx) (by decide)) (fun x hx => isL_ne ((word_chr hu.1).1 x hx) (by decide))
 cases t
 cases u
 simp only at h1 h2
 rw [lb_inj h1, lb_inj h2]
theorem map_inj_on {α β : Type} {f : α → β} : ∀ {a b : List α}, (∀ x ∈ a, ∀ y ∈ b, f x = f y → x = y) → a.map f = b.map f → a = b
 | [], [], _, _ => rfl
 | [], y :: b, _, h => by simp at h
 | x :: a, [], _, h => by simp at h
 | x :: a, y :: b, hi, h => by
  simp only [List.map_cons, List.cons.injEq] at h
  rw [hi x (by simp) y (by simp) h.1, map_inj_on (fun x hx y hy => hi x (by simp [hx]) y (by simp [hy])) h.2]
def fst97 (w : List UInt8) : Bool := match w with
 | c :: _ => decide (97 ≤ c.toNat)
 | [] => true
theorem fst_wPt (p : Pt) : fst97 (wPt p) = false := by
 unfold wPt
 cases h : Go.Lib.itoa p.x with
 | nil => exact absurd h (itoa_ne _)
 | cons c r =>
  have := itoa_chr p.x c (by rw [h]; simp)
  simp only [List.cons_append, fst97, decide_eq_false_iff_not]
  rcases this with rfl | h
  ·decide
  ·unfold isD at h
   omega
theorem fst_word {s : Str} (h : mWord s = true) (r : List UInt8) : fst97 (lb s ++ r) = true := by
 obtain ⟨h1, h2⟩ := word_chr h
 cases hs : lb s with
 | nil => exact absurd hs h2
 | cons c w =>
  have := h1 c (by rw [hs]; simp)
  simp only [List.cons_append, fst97, decide_eq_true_eq]
  exact this.1
theorem name_inj {k m : Int} (hk : k = 1 ∨ k = 2 ∨ k = 3) (hm : m = 1 ∨ m = 2 ∨ m = 3) (h : lb (xName k) = lb (xName m)) : k = m := by
 rcases hk with rfl | rfl | rfl <;> rcases hm with rfl | rfl | rfl <;> first | rfl | (exact absurd h (by decide))
theorem words_chr {f : Feat} (hf : mFeat f = true) : ∀ w ∈ f.shape.pts.map wPt ++ f.tags.map wTg, ∀ x ∈ w, x ≠ 32 := by
 intro w hw x hx
 rcases List.mem_append.1 hw with h | h
 ·obtain ⟨p, _, rfl⟩ := List.mem_map.1 h
  rcases wPt_chr p x hx with h | h
  ·rw [h]; decide
  ·exact num_ne h (by decide) (by decide)
 ·obtain ⟨t, ht, rfl⟩ := List.mem_map.1 h
  rcases wTg_chr (tag_words hf t ht) x hx with h | h
  ·rw [h]; decide
  ·exact isL_ne h (by decide)
theorem xFeat_inj {f g : Feat} (hf : mFeat f = true) (hg : mFeat g = true) (h : lb (xFeat f) = lb (xFeat g)) : f = g := by
 rw [lb_feat, lb_feat] at h
 obtain ⟨f1, f2, f3, f4⟩ := feat_parts hf
 obtain ⟨g1, g2, g3, g4⟩ := feat_parts hg
 obtain ⟨h1, h2⟩ := cut1 h (fun x hx => isL_ne ((word_chr f1).1 x hx) (by decide)) (fun x hx => isL_ne ((word_chr g1).1 x hx) (by decide))
 have hn : ∀ {s : Feat}, mShape s.shape = true → ∃ w r, s.shape.pts.map wPt ++ s.tags.map wTg = w :: r := fun {s} hs => by
  cases hp : s.shape.pts with
  | nil => exact absurd hp (pts_ne hs)
  | cons p l => exact ⟨_, _, rfl⟩
 obtain ⟨w, r, e1⟩ := hn f2
 obtain ⟨v, q, e2⟩ := hn g2
 have h3 : lb (xName f.shape.kind) = lb (xName g.shape.kind) ∧ (f.shape.pts.map wPt ++ f.tags.map wTg).flatMap (fun w => 32 :: w) = (g.shape.pts.map wPt ++ g.tags.map wTg).flatMap (fun w => 32 :: w) := by
  rw [e1, e2, List.flatMap_cons, List.flatMap_cons, List.cons_append, List.cons_append] at h2 ⊢
  obtain ⟨k1, k2⟩ := cut1 h2 (fun x hx => isL_ne (name_chr _ x hx) (by decide)) (fun x hx => isL_ne (name_chr _ x hx) (by decide))
  exact ⟨k1, by rw [k2]⟩
 have h4 := begins h3.2 (words_chr hf) (words_chr hg)
 have hpt : ∀ {s : Feat}, ∀ x ∈ s.shape.pts.map wPt, (fun w => !fst97 w) x = true := fun {s} x hx => by
  obtain ⟨p, _, rfl⟩ := List.mem_map.1 hx
  simp [fst_wPt]
 have htg : ∀ {s : Feat}, mFeat s = true → ∀ x, (s.tags.map wTg).head? = some x → (fun w => !fst97 w) x = false := fun {s} hs x hx => by
  obtain ⟨t, ht, rfl⟩ := List.mem_map.1 (List.mem_of_head? hx)
  simp [wTg, fst_word (tag_words hs t ht).1]
 obtain ⟨h5, h6⟩ := kinds (p := fun w => !fst97 w) h4 hpt hpt (htg hf) (htg hg)
 have h7 := map_inj_on (fun x _ y _ e => wPt_inj e) h5
 have h8 := map_inj_on (fun x hx y hy e => wTg_inj (tag_words hf x hx) (tag_words hg y hy) e) h6
 have h9 := name_inj (shape_kind f2) (shape_kind g2) h3.1
 have h10 := lb_inj h1
 obtain ⟨i, ⟨k, p⟩, t⟩ := f
 obtain ⟨i', ⟨k', p'⟩, t'⟩ := g
 simp only at h7 h8 h9 h10
 rw [h7, h8, h9, h10]
def okc (c : UInt8) : Prop := c ≠ 62 ∧ c ≠ 10
theorem okc_L {c : UInt8} (h : isL c) : okc c := ⟨isL_ne h (by decide), isL_ne h (by decide)⟩
theorem okc_num {c : UInt8} (h : c = 45 ∨ isD c) : okc c := ⟨num_ne h (by decide) (by decide), num_ne h (by decide) (by decide)⟩
theorem feat_okc {f : Feat} (hf : mFeat f = true) : ∀ c ∈ lb (xFeat f), okc c := by
 obtain ⟨f1, f2, f3, f4⟩ := feat_parts hf
 intro c hc
 rw [lb_feat] at hc
 rcases List.mem_append.1 hc with h | h
 ·exact okc_L ((word_chr f1).1 c h)
 rcases List.mem_cons.1 h with h | h
 ·rw [h]; exact ⟨by decide, by decide⟩
 rcases List.mem_append.1 h with h | h
 ·exact okc_L (name_chr _ c h)
 obtain ⟨w, hw, h⟩ := List.mem_flatMap.1 h
 rcases List.mem_cons.1 h with h | h
 ·rw [h]; exact ⟨by decide, by decide⟩
 rcases List.mem_append.1 hw with hw | hw
 ·obtain ⟨p, _, rfl⟩ := List.mem_map.1 hw
  rcases wPt_chr p c h with h | h
  ·rw [h]; exact ⟨by decide, by decide⟩
  ·exact okc_num h
 ·obtain ⟨t, ht, rfl⟩ := List.mem_map.1 hw
  rcases wTg_chr (tag_words hf t ht) c h with h | h
  ·rw [h]; exact ⟨by decide, by decide⟩
  ·exact okc_L h
theorem side_parts {id : Str} {b : Bool} {f : Feat} (h : mSideOk id b f = true) : (b = true ∧ mFeat f = true) ∨ (b = false ∧ f = nF) := by
 unfold mSideOk at h
 cases b with
 | true =>
  simp only [if_true, Bool.and_eq_true] at h
  exact .inl ⟨rfl, h.1⟩
 | false => exact .inr ⟨rfl, by simpa using h⟩
theorem xside_t {f : Feat} (h : mFeat f = true) : xSide true f = xFeat f := by unfold xSide; rw [if_pos rfl, if_pos h]
theorem xside_okc {id : Str} {b : Bool} {f : Feat} (h : mSideOk id b f = true) : ∀ c ∈ lb (xSide b f), okc c := by
 rcases side_parts h with ⟨rfl, hm⟩ | ⟨rfl, rfl⟩
 ·rw [xside_t hm]
  exact feat_okc hm
 ·intro c hc
  have hc : c ∈ [45] := hc
  rw [List.mem_singleton.1 hc]
  exact ⟨by decide, by decide⟩
theorem xside_inj {i j : Str} {b d : Bool} {f g : Feat} (hf : mSideOk i b f = true) (hg : mSideOk j d g = true) (h : lb (xSide b f) = lb (xSide d g)) : b = d ∧ f = g := by
 have no : ∀ {f : Feat}, mFeat f = true → lb (xFeat f) ≠ [45] := fun {f} hf e => by
  have h1 := fst_word (feat_parts hf).1 (32 :: (lb (xName f.shape.kind) ++ (f.shape.pts.map wPt ++ f.tags.map wTg).flatMap (fun w => 32 :: w)))
  rw [← lb_feat, e] at h1
  exact absurd h1 (by decide)
 rcases side_parts hf with ⟨rfl, h1⟩ | ⟨rfl, rfl⟩ <;> rcases side_parts hg with ⟨rfl, h2⟩ | ⟨rfl, rfl⟩
 ·rw [xside_t h1, xside_t h2] at h
  exact ⟨rfl, xFeat_inj h1 h2 h⟩
 ·rw [xside_t h1] at h
  exact absurd h (no h1)
 ·rw [xside_t h2] at h
  exact absurd h.symm (no h2)
 ·exact ⟨rfl, rfl⟩
def cl (c : Change) : List UInt8 := lb c.id ++ 58 :: 32 :: (lb (xSide c.had c.was) ++ 32 :: 62 :: 32 :: lb (xSide c.has c.now))
theorem lb_change (c : Change) (k : Nat) : lb (xChange c k) = cl c ++ [10] := by
 unfold xChange cl
 rw [lb_app, lb_app, lb_app, lb_app, lb_app, show lb (⟨#[58, 32]⟩ : Str) = [58, 32] from rfl, show lb (⟨#[32, 62, 32]⟩ : Str) = [32, 62, 32] from rfl, show lb (⟨#[10]⟩ : Str) = [10] from rfl]
 simp
theorem one_parts {c : Change} (h : mOne c = true) : mWord c.id = true ∧ mSideOk c.id c.had c.was = true ∧ mSideOk c.id c.has c.now = true := by
 unfold mOne at h
 simp only [Bool.and_eq_true] at h
 exact ⟨h.1, h.2.1, h.2.2.1⟩
theorem cl_nl {c : Change} (h : mOne c = true) : ∀ x ∈ cl c, x ≠ 10 := by
 obtain ⟨h1, h2, h3⟩ := one_parts h
 intro x hx
 unfold cl at hx
 rcases List.mem_append.1 hx with g | g
 ·exact isL_ne ((word_chr h1).1 x g) (by decide)
 rcases List.mem_cons.1 g with g | g
 ·rw [g]; decide
 rcases List.mem_cons.1 g with g | g
 ·rw [g]; decide
 rcases List.mem_append.1 g with g | g
 ·exact (xside_okc h2 x g).2
 rcases List.mem_cons.1 g with g | g
 ·rw [g]; decide
 rcases List.mem_cons.1 g with g | g
 ·rw [g]; decide
 rcases List.mem_cons.1 g with g | g
 ·rw [g]; decide
 exact (xside_okc h3 x g).2
theorem cl_inj {c d : Change} (hc : mOne c = true) (hd : mOne d = true) (h : cl c = cl d) : c = d := by
 obtain ⟨c1, c2, c3⟩ := one_parts hc
 obtain ⟨d1, d2, d3⟩ := one_parts hd
 unfold cl at h
 obtain ⟨h1, h2⟩ := cut1 h (fun x hx => isL_ne ((word_chr c1).1 x hx) (by decide)) (fun x hx => isL_ne ((word_chr d1).1 x hx) (by decide))
 simp only [List.cons.injEq, true_and] at h2
 have h3 : (lb (xSide c.had c.was) ++ [32]) ++ 62 :: (32 :: lb (xSide c.has c.now)) = (lb (xSide d.had d.was) ++ [32]) ++ 62 :: (32 :: lb (xSide d.has d.now)) := by simpa using h2
 have key : ∀ {i : Str} {b : Bool} {f : Feat}, mSideOk i b f = true → ∀ x ∈ lb (xSide b f) ++ [32], x ≠ 62 := fun {i b f} hs x hx => by
  rcases List.mem_append.1 hx with g | g
  ·exact (xside_okc hs x g).1
  ·rw [List.mem_singleton.1 g]; decide
 obtain ⟨h4, h5⟩ := cut1 h3 (key c2) (key d2)
 obtain ⟨a1, a2⟩ := xside_inj c2 d2 (List.append_cancel_right h4)
 simp only [List.cons.injEq, true_and] at h5
 obtain ⟨a3, a4⟩ := xside_inj c3 d3 h5
 have a0 := lb_inj h1
 cases c
 cases d
 simp only at a0 a1 a2 a3 a4
 rw [a0, a1, a2, a3, a4]
theorem lb_diff {d : List Change} (h : mDiff d = true) : lb (xDiff d) = (d.map cl).flatMap (fun w => w ++ [10]) := by
 unfold xDiff
 rw [if_pos h, List.flatMap_map]
 exact lb_tJ' (fun c k => lb_change c k) d 0
structure GdE (e : Entry) : Prop where
 note : mWord e.note = true
 diff : mDiff e.diff = true
 up : ∀ u ∈ e.up, 0 ≤ u
def hl (e : Entry) (k : Nat) : List UInt8 := Go.Lib.itoa (k : Int) ++ ((e.up.map Go.Lib.itoa).flatMap (fun w => 32 :: w) ++ 32 :: lb e.note)
theorem lb_entry {e : Entry} {k : Nat} (h : GdE e) : lb (xEntry e k) = (hl e k :: e.diff.map cl).flatMap (fun w => w ++ [10]) := by
 have hu : lb (tJ xUp e.up 0) = (e.up.map Go.Lib.itoa).flatMap (fun w => 32 :: w) := by
  rw [List.flatMap_map]
  refine lb_tJ' (fun u k => ?_) e.up 0
  unfold xUp
  rw [lb_app, lb_itoa]
  rfl
 unfold xEntry hl
 rw [lb_app, lb_app, lb_app, lb_app, lb_app, lb_itoa, hu, lb_diff h.diff, List.flatMap_cons, show lb (⟨#[32]⟩ : Str) = [32] from rfl, show lb (⟨#[10]⟩ : Str) = [10] from rfl]
 simp
def lin : List Entry → Nat → List (List UInt8)
 | [], _ => []
 | e :: l, k => (hl e k :: e.diff.map cl) ++ lin l (k + 1)
theorem lb_pack : ∀ (l : List Entry) (k : Nat), (∀ e ∈ l, GdE e) → lb (tJ xEntry l k) = (lin l k).flatMap (fun w => w ++ [10])
 | [], k, _ => rfl
 | e :: l, k, h => by
  show lb (xEntry e k ++ tJ xEntry l (k + 1)) = _
  rw [lb_app, lb_entry (h e (by simp)), lb_pack l (k + 1) (fun e he => h e (by simp [he])), lin, List.flatMap_append]
theorem hl_chr {e : Entry} {k : Nat} (h : GdE e) : ∀ x ∈ hl e k, x ≠ 10 := by
 intro x hx
 unfold hl at hx
 rcases List.mem_append.1 hx with g | g
 ·exact (okc_num (itoa_chr _ x g)).2
 rcases List.mem_append.1 g with g | g
 ·obtain ⟨w, hw, g⟩ := List.mem_flatMap.1 g
  obtain ⟨u, _, rfl⟩ := List.mem_map.1 hw
  rcases List.mem_cons.1 g with g | g
  ·rw [g]; decide
  ·exact (okc_num (itoa_chr _ x g)).2
 rcases List.mem_cons.1 g with g | g
 ·rw [g]; decide
 ·exact (okc_L ((word_chr h.note).1 x g)).2
theorem lin_chr : ∀ {l : List Entry} {k : Nat}, (∀ e ∈ l, GdE e) → ∀ w ∈ lin l k, ∀ x ∈ w, x ≠ 10
 | [], k, _, w, hw => by cases hw
 | e :: l, k, h, w, hw => by
  rw [lin] at hw
  rcases List.mem_append.1 hw with g | g
  ·rcases List.mem_cons.1 g with g | g
   ·rw [g]; exact hl_chr (h e (by simp))
   ·obtain ⟨c, hc, rfl⟩ := List.mem_map.1 g
    exact cl_nl (mDiff_one (h e (by simp)).diff c hc)
  ·exact lin_chr (fun e he => h e (by simp [he])) w g
theorem itoa_nat (n : Int) (h : 0 ≤ n) : ∀ x ∈ Go.Lib.itoa n, isD x := by
 unfold Go.Lib.itoa
 rw [if_neg (by omega)]
 exact dec_dig _
theorem fst_num {n : Int} (h : 0 ≤ n) (r : List UInt8) : fst97 (Go.Lib.itoa n ++ r) = false := by
 cases hh : Go.Lib.itoa n with
 | nil => exact absurd hh (itoa_ne _)
 | cons c w =>
  have := itoa_nat n h c (by rw [hh]; simp)
  unfold isD at this
  simp only [List.cons_append, fst97, decide_eq_false_iff_not]
  omega
theorem hl_inj {e f : Entry} {k : Nat} (he : GdE e) (hf : GdE f) (h : hl e k = hl f k) : e.up = f.up ∧ e.note = f.note := by
 unfold hl at h
 have h := List.append_cancel_left h
 have key : ∀ {g : Entry}, (g.up.map Go.Lib.itoa).flatMap (fun w => 32 :: w) ++ 32 :: lb g.note = (g.up.map Go.Lib.itoa ++ [lb g.note]).flatMap (fun w => 32 :: w) := fun {g} => by
  rw [List.flatMap_append]
  simp
 rw [key, key] at h
 have chr : ∀ {g : Entry}, GdE g → ∀ w ∈ g.up.map Go.Lib.itoa ++ [lb g.note], ∀ x ∈ w, x ≠ 32 := fun {g} hg w hw x hx => by
  rcases List.mem_append.1 hw with q | q
  ·obtain ⟨u, _, rfl⟩ := List.mem_map.1 q
   exact num_ne (itoa_chr _ x hx) (by decide) (by decide)
  ·rw [List.mem_singleton.1 q] at hx
   exact isL_ne ((word_chr hg.note).1 x hx) (by decide)
 have h2 := begins h (chr he) (chr hf)
 have kn : ∀ {g : Entry}, GdE g → ∀ w ∈ g.up.map Go.Lib.itoa, (fun w => !fst97 w) w = true := fun {g} hg w hw => by
  obtain ⟨u, hu, rfl⟩ := List.mem_map.1 hw
  have := fst_num (hg.up u hu) []
  rw [List.append_nil] at this
  simp [this]
 have kh : ∀ {g : Entry}, GdE g → ∀ w, [lb g.note].head? = some w → (fun w => !fst97 w) w = false := fun {g} hg w hw => by
  simp only [List.head?_cons, Option.some.injEq] at hw
  subst hw
  have := fst_word hg.note []
  rw [List.append_nil] at this
  simp [this]
 obtain ⟨h3, h4⟩ := kinds (p := fun w => !fst97 w) h2 (kn he) (kn hf) (kh he) (kh hf)
 simp only [List.cons.injEq, and_true] at h4
 exact ⟨map_inj_on (fun x _ y _ e => itoa_inj e) h3, lb_inj h4⟩
theorem lin_head {l : List Entry} {k : Nat} : ∀ x, (lin l k).head? = some x → fst97 x = false := by
 intro x hx
 cases l with
 | nil => cases hx
 | cons e l =>
  simp only [lin, List.cons_append, List.head?_cons, Option.some.injEq] at hx
  subst hx
  exact fst_num (by omega) _
theorem lin_inj : ∀ {l m : List Entry} {k : Nat}, lin l k = lin m k → (∀ e ∈ l, GdE e) → (∀ e ∈ m, GdE e) → l = m
 | [], [], _, _, _, _ => rfl
 | [], y :: m, k, h, _, _ => by simp [lin] at h
 | x :: l, [], k, h, _, _ => by simp [lin] at h
 | x :: l, y :: m, k, h, hl', hm => by
  simp only [lin, List.cons_append, List.cons.injEq] at h
  have gx := hl' x (by simp)
  have gy := hm y (by simp)
  obtain ⟨h1, h2⟩ := hl_inj gx gy h.1
  have kc : ∀ {g : Entry}, GdE g → ∀ w ∈ g.diff.map cl, fst97 w = true := fun {g} hg w hw => by
   obtain ⟨c, hc, rfl⟩ := List.mem_map.1 hw
   exact fst_word (one_parts (mDiff_one hg.diff c hc)).1 _
  obtain ⟨h3, h4⟩ := kinds (p := fst97) h.2 (kc gx) (kc gy) lin_head lin_head
  have h5 := map_inj_on (fun c hc d hd e => cl_inj (mDiff_one gx.diff c hc) (mDiff_one gy.diff d hd) e) h3
  rw [lin_inj h4 (fun e he => hl' e (by simp [he])) (fun e he => hm e (by simp [he]))]
  congr 1
  cases x
  cases y
  simp only at h1 h2 h5
  rw [h1, h2, h5]
theorem pack_gd {r : Repo} (hr : mRepo r = true) : ∀ e ∈ mPack r, GdE e := fun e he => by
 obtain ⟨k, hk⟩ := List.mem_iff_getElem?.1 he
 obtain ⟨_, c, hc, rfl⟩ := pack_get hk
 have hm := List.mem_of_getElem? hc
 exact ⟨repo_note hr hm, df_ok (was_sheet hr c.up) (repo_sheet hr c hm), fun u hu => ((up_parts (mRepo_up (cs := r.commits) (hs := r.heads) hr k c hc)).2.2 u hu).1⟩
theorem pack_text {a b : Repo} (ha : mRepo a = true) (hb : mRepo b = true) (h : xPack (mPack a) = xPack (mPack b)) : mPack a = mPack b := by
 have h1 := congrArg lb h
 unfold xPack at h1
 rw [lb_pack _ 0 (pack_gd ha), lb_pack _ 0 (pack_gd hb)] at h1
 exact lin_inj (ends h1 (lin_chr (pack_gd ha)) (lin_chr (pack_gd hb))) (pack_gd ha) (pack_gd hb)
theorem pack_tells {a b : Repo} (ha : mRepo a = true) (hb : mRepo b = true) : (a = b) ↔ (a.heads = b.heads ∧ xPack (mPack a) = xPack (mPack b)) := by
 constructor
 ·rintro rfl
  exact ⟨rfl, rfl⟩
 ·rintro ⟨h1, h2⟩
  have h3 := pack_text ha hb h2
  have h4 := open_pack ha
  rw [h3, h1, open_pack hb] at h4
  simp only [Prod.mk.injEq, and_true] at h4
  exact h4.symm
theorem dr_RepoSame2 (code : List UInt8) : ∃ a b, gf_cd9 code = some (a, b) ∧ bR a ∧ wRepo b ≤ 400000 := by
 obtain ⟨b, h0, hb⟩ := dr_open code
 obtain ⟨r, p1, h1, a1, b1, hr⟩ := dr_l7Bent b 0 hb (by omega) (by omega)
 have hw := bR_w hr
 have hr' := hr
 obtain ⟨⟨g1, g2⟩, ⟨g3, g4⟩, g5, g6⟩ := hr'
 unfold gf_cd9
 rw [h0, Option.bind_some, h1, Option.bind_some, Option.bind_some, Option.bind_some, h1, Option.bind_some]
 simp only
 split
 ·rename_i hp
  have hp' : 0 < code.length := by simpa using hp
  obtain ⟨u, hu⟩ := getI (xs := code) (i := 0) hp'
  obtain ⟨c, hc⟩ := getI (xs := r.commits) (i := 0) (by omega)
  have e1 : idx code 0 = some u := by rw [show (0 : Int) = ((0 : Nat) : Int) from rfl, idx_nat]; exact hu
  have e2 : idx r.commits 0 = some c := by rw [show (0 : Int) = ((0 : Nat) : Int) from rfl, idx_nat]; exact hc
  have hcb := g5 c (List.mem_of_getElem? hc)
  have hcn := hcb.2.2.1
  rw [e1, Option.bind_some]
  split
  ·rw [e2, Option.bind_some, catS (by rw [one_size]; omega), Option.bind_some]
   refine ⟨_, _, rfl, hr, ?_⟩
   have hcw := bC_w hcb
   have e0 : wCommit c = wL w0 c.up + (wL wFeat c.sheet + (c.note.size + 0)) := rfl
   have h1 := sum_le2 (w := wCommit) (n := 10021) (xs := List.set r.commits (0 : Int).toNat ⟨c.up, c.sheet, c.note ++ ⟨#[97]⟩⟩) fun y hy => by
    rcases List.mem_or_eq_of_mem_set hy with h | h
    ·have := bC_w (g5 y h); omega
    ·subst h
     show wL w0 c.up + (wL wFeat c.sheet + ((c.note ++ (⟨#[97]⟩ : Str)).size + 0)) ≤ 10021
     rw [ByteArray.size_append, one_size]
     omega
   have h2 : (List.set r.commits (0 : Int).toNat ⟨c.up, c.sheet, c.note ++ ⟨#[97]⟩⟩).length ≤ 12 := by simpa using g2
   unfold wRepo wL at hw ⊢
   simp only
   omega
  ·exact ⟨_, _, rfl, hr, by omega⟩
 ·exact ⟨_, _, rfl, hr, by omega⟩
theorem heads_loop {cs ds : List Commit} {hs ks : List Head} (hl : hs.length = ks.length) : ∀ (l : List Head) (k : Nat) (v : Bool), hs.drop k = l → gl_bi9_1 (cs, hs, ds, ks) l k v = some (v && decide (l = ks.drop k))
 | [], k, v, h => by
  have : hs.length ≤ k := by simpa using h
  rw [List.drop_eq_nil_of_le (show ks.length ≤ k by omega)]
  simp [gl_bi9_1]
 | x :: l, k, v, h => by
  have hk := drop_len h
  obtain ⟨y, hy⟩ := getI (xs := ks) (i := k) (by omega)
  have hd : ks.drop k = y :: ks.drop (k + 1) := by
   rw [List.drop_eq_getElem_cons (by omega)]
   congr 1
   exact (List.getElem?_eq_some_iff.1 hy).2
  rw [gl_bi9_1, hd]
  cases v with
  | false => simp
  | true =>
   simp only [if_true, idx_nat, hy, Option.bind_some]
   rw [heads_loop hl l (k + 1) _ (drop_next h)]
   obtain ⟨n, i⟩ := x
   obtain ⟨m, j⟩ := y
   have eb : (n == m) = decide (n = m) := by rw [beq_toListBytes, ← seq_dec]; rfl
   rw [eb]
   by_cases e1 : n = m
   ·by_cases e2 : i = j
    ·by_cases e3 : l = ks.drop (k + 1) <;> simp [e1, e2, e3]
    ·simp [e1, e2]
   ·simp [e1]
theorem law_FnPackSame (code : List UInt8) : gf_bi9 code = some true := by
 unfold gf_bi9
 split
 ·rfl
 obtain ⟨⟨cs, hs⟩, ⟨ds, ks⟩, h1, h2, h3⟩ := dr_RepoSame2 code
 have hw := bR_w h2
 have hpt : ∀ r : Repo, gf_aj9 (mPack r) = some (xPack (mPack r)) := fun r => i_PackText pack_ok
 have hst : ∀ r : Repo, gf_ci9 (mPack r) = some (xPack (mPack r)) := fun r => s_PackText pack_ok
 simp only [h1, Option.bind_some]
 rw [i_PackOf (by omega), Option.bind_some, hpt, Option.bind_some, s_PackOf' (by omega), Option.bind_some, hst, Option.bind_some, if_neg (by simp [seq_self]), s_RepoOk (by omega), Option.bind_some]
 by_cases ha : mRepo ⟨cs, hs⟩ = true
 ·rw [if_neg (by simp [ha]), s_RepoOk (by omega), Option.bind_some]
  by_cases hb : mRepo ⟨ds, ks⟩ = true
  ·rw [if_neg (by simp [hb])]
   have hla := (repo_lens ha).2.2
   have hlb := (repo_lens hb).2.2
   simp only at hla hlb
   rw [if_pos (fits_small (by omega))]
   have hwb : wRepo ⟨ds, ks⟩ ≤ 1048576 := by omega
   have ht := pack_tells ha hb
   have hloop : gl_bi9_1 (cs, hs, ds, ks) hs 0 ((hs.length : Int) == (ks.length : Int)) = some (decide (hs = ks)) := by
    by_cases e : hs.length = ks.length
    ·rw [heads_loop e hs 0 _ rfl, e]
     simp
    ·have e2 : ((hs.length : Int) == (ks.length : Int)) = false := by simp; omega
     rw [e2]
     have e3 : ¬ hs = ks := fun h => e (by rw [h])
     cases hs with
     | nil => simp [gl_bi9_1, e3]
     | cons x l => simp [gl_bi9_1, e3]
   rw [hloop, Option.bind_some, i_RepoSame (by omega), Option.bind_some]
   by_cases e : hs = ks
   ·rw [if_pos (by simpa using e), i_PackOf hwb, Option.bind_some, hpt, Option.bind_some]
    subst e
    have ht' : cs = ds ↔ xPack (mPack ⟨cs, hs⟩) = xPack (mPack ⟨ds, hs⟩) := by simpa using ht
    by_cases q : cs = ds
    ·subst q
     simp [seq_self]
    ·have q2 := mt ht'.2 q
     simp [q, seq_dec, q2]
   ·rw [if_neg (by simpa using e)]
    have : ¬ (⟨cs, hs⟩ : Repo) = ⟨ds, ks⟩ := fun h => e (by simpa using (congrArg Repo.heads h))
    simp [this]
  ·rw [if_pos (by simp [hb])]
   simp [s_PackOf' (r := ⟨cs, hs⟩) (by omega), hst, seq_self]
 ·rw [if_pos (by simp [ha])]
  simp [s_PackOf' (r := ⟨cs, hs⟩) (by omega), hst, seq_self]
end Go.Proofs.AM
