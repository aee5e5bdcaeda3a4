/- Lemmas of the proof (KOP), on an abstract machine. Conditions: none. -/
import Derived.Test.YtbildbphkmdemaaKOD
import Derived.Test.YtbildbphkmdemaaM2
set_option linter.unusedVariables false
set_option linter.unusedSimpArgs false
set_option maxRecDepth 10000
namespace Go.Proofs.AM
theorem s_WordOk {s : Str} (h : s.size ≤ 1048576) : gf_cs9 s = some (mWord s) := by
 unfold gf_cs9 mWord
 rw [if_pos (fits_small h), loopB (gl := gl_cs9_1) (p := fun (b : UInt8) _ => decide (97 ≤ b.toNat) && decide (b.toNat ≤ 122)) (xs := s.data.toList) (fun _ => rfl) (fun x l k _ => ?_) s.data.toList 0 rfl]
 ·have e1 : ((s.size : Int) ≥ 1) ↔ 1 ≤ s.size := by omega
  have e2 : ((s.size : Int) ≤ 6) ↔ s.size ≤ 6 := by omega
  cases allFrom (fun (b : UInt8) _ => decide (97 ≤ b.toNat) && decide (b.toNat ≤ 122)) s.data.toList 0
  ·rfl
  ·by_cases h1 : 1 ≤ s.size <;> simp [e1, e2, h1]
 ·have e1 : ((x.toNat : Int) < 97) ↔ ¬ 97 ≤ x.toNat := by omega
  have e2 : ((x.toNat : Int) > 122) ↔ ¬ x.toNat ≤ 122 := by omega
  simp only [gl_cs9_1, e1, e2]
  by_cases h1 : 97 ≤ x.toNat <;> by_cases h2 : x.toNat ≤ 122 <;> simp [h1, h2]
theorem i_WordOk {s : Str} (h : s.size ≤ 1048576) : gf_az9 s = some (mWord s) := by
 unfold gf_az9 mWord
 rw [if_pos (fits_small h), loopB (gl := gl_az9_1) (p := fun (b : UInt8) _ => decide (97 ≤ b.toNat) && decide (b.toNat ≤ 122)) (xs := s.data.toList) (fun _ => rfl) (fun x l k _ => ?_) s.data.toList 0 rfl]
 ·have e1 : ((s.size : Int) ≥ 1) ↔ 1 ≤ s.size := by omega
  have e2 : ((s.size : Int) ≤ 6) ↔ s.size ≤ 6 := by omega
  cases allFrom (fun (b : UInt8) _ => decide (97 ≤ b.toNat) && decide (b.toNat ≤ 122)) s.data.toList 0
  ·rfl
  ·by_cases h1 : 1 ≤ s.size <;> simp [gf_bk9, e1, e2, h1]
 ·have e1 : ((x.toNat : Int) < 97) ↔ ¬ 97 ≤ x.toNat := by omega
  have e2 : ((x.toNat : Int) > 122) ↔ ¬ x.toNat ≤ 122 := by omega
  simp only [gl_az9_1, e1, e2]
  by_cases h1 : 97 ≤ x.toNat <;> by_cases h2 : x.toNat ≤ 122 <;> simp [h1, h2]
theorem s_l1Num (n : Int) : gf_cz9 n = some (mNum n) := by
 unfold gf_cz9 mNum
 by_cases h : -1000 ≤ n <;> simp [h]
theorem i_within (n a b : Int) : gf_bk9 n a b = some (decide (a ≤ n) && decide (n ≤ b)) := by
 unfold gf_bk9
 by_cases h : a ≤ n <;> simp [h]
theorem s_l1Pts {xs : List Pt} (h : xs.length ≤ 1048576) : gf_db9 xs = some (mPts xs && decide (xs.length ≤ 6)) := by
 unfold gf_db9 mPts
 rw [if_pos (fits_small h), loopB (gl := gl_db9_1 xs) (p := fun p k => mNum p.x && (mNum p.y && (decide (k = 0) || decide (xs[k - 1]? ≠ some p)))) (xs := xs) (fun _ => rfl) (fun x l k hd => ?_) xs 0 rfl]
 ·rw [show decide ((xs.length : Int) ≤ 6) = decide (xs.length ≤ 6) from decI]
  exact endB
 ·simp only [gl_db9_1, s_l1Num, Option.bind_some, ptb, posI]
  rcases Nat.eq_zero_or_pos k with rfl | hk
  ·cases mNum x.x <;> cases mNum x.y <;> simp
  ·obtain ⟨y, hy⟩ := drop_prev hd hk
   have hl := drop_len hd
   have hw := wrap_pred hk (by omega)
   rw [hw, idx_nat, hy]
   have hk' : ¬ k = 0 := by omega
   by_cases e : x = y
   ·subst e
    cases mNum x.x <;> cases mNum x.y <;> simp [hk, hk', hy]
   ·have e' : ¬ y = x := fun h => e h.symm
    cases mNum x.x <;> cases mNum x.y <;> simp [hk, hk', hy, e, e']
theorem s_ShapeOk {x : Shape} (h : x.pts.length ≤ 1048576) : gf_cr9 x = some (mShape x) := by
 unfold gf_cr9 mShape
 rw [s_l1Pts h]
 simp only [Option.bind_some, ptb]
 have c1 : ((x.pts.length : Int) == 1) = decide (x.pts.length = 1) := by
  by_cases e : x.pts.length = 1 <;> simp [e] <;> omega
 have c2 : ((x.pts.length : Int) ≥ 2) ↔ 2 ≤ x.pts.length := by omega
 have c3 : ((x.pts.length : Int) ≥ 3) ↔ 3 ≤ x.pts.length := by omega
 cases mPts x.pts
 ·simp
 ·by_cases hl : x.pts.length ≤ 6
  ·by_cases k1 : x.kind = 1
   ·simp [k1, hl, c1]
   ·by_cases k2 : x.kind = 2
    ·simp [k2, hl, c2]
    ·by_cases k3 : x.kind = 3
     ·by_cases h3 : 3 ≤ x.pts.length
      ·obtain ⟨p, hp⟩ : ∃ p, x.pts[0]? = some p := ⟨x.pts[0], List.getElem?_eq_getElem (by omega)⟩
       obtain ⟨q, hq⟩ : ∃ p, x.pts[x.pts.length - 1]? = some p := ⟨x.pts[x.pts.length - 1], List.getElem?_eq_getElem (by omega)⟩
       have hw := wrap_pred (k := x.pts.length) (by omega) (by omega)
       have e0 : idx x.pts 0 = some p := by rw [← hp]; exact idx_nat (k := 0)
       have e1 : idx x.pts ((x.pts.length - 1 : Nat) : Int) = some q := by rw [← hq]; exact idx_nat
       rw [hw]
       simp [k3, hl, c3, h3, e0, e1, hp, hq]
      ·simp [k3, hl, c3, h3]
     ·simp [k1, k2, k3, hl]
  ·simp [hl]
theorem i_ptOk (p : Pt) : gf_bi9 p = some (mNum p.x && mNum p.y) := by
 unfold gf_bi9 mNum
 rw [i_within, i_within]
 simp only [Option.bind_some]
 cases (decide (-1000 ≤ p.x) && decide (p.x ≤ 1000)) <;> simp
theorem i_ShapeOk {x : Shape} (h : x.pts.length ≤ 1048576) : gf_at9 x = some (mShape x) := by
 unfold gf_at9 mShape
 have c1 : ((x.pts.length : Int) == 1) = decide (x.pts.length = 1) := by
  by_cases e : x.pts.length = 1 <;> simp [e] <;> omega
 have c2 : ((2 : Int) ≤ (x.pts.length : Int)) ↔ 2 ≤ x.pts.length := by omega
 have c3 : ((3 : Int) ≤ (x.pts.length : Int)) ↔ 3 ≤ x.pts.length := by omega
 have c6 : ((x.pts.length : Int) ≤ 6) ↔ x.pts.length ≤ 6 := by omega
 rw [if_pos (fits_small h), loopB (gl := gl_at9_1 x) (p := fun p k => mNum p.x && (mNum p.y && (decide (k = 0) || decide (x.pts[k - 1]? ≠ some p)))) (xs := x.pts) (fun _ => rfl) (fun y l k hd => ?_) x.pts 0 rfl]
 ·show _ = some (mPts x.pts && _)
  have hm : allFrom (fun (p : Pt) k => mNum p.x && (mNum p.y && (decide (k = 0) || decide (x.pts[k - 1]? ≠ some p)))) x.pts 0 = mPts x.pts := rfl
  rw [hm]
  cases mPts x.pts
  ·rfl
  ·simp only [if_true, Option.bind_some, ptb, i_within]
   by_cases k1 : x.kind = 1
   ·by_cases e : x.pts.length = 1 <;> simp [k1, c1, e]
   ·by_cases k2 : x.kind = 2
    ·by_cases e : x.pts.length ≤ 6 <;> simp [k2, c2, c6, e]
    ·by_cases k3 : x.kind = 3
     ·by_cases h3 : 3 ≤ x.pts.length
      ·obtain ⟨p, hp⟩ : ∃ p, x.pts[0]? = some p := ⟨x.pts[0], List.getElem?_eq_getElem (by omega)⟩
       obtain ⟨q, hq⟩ : ∃ p, x.pts[x.pts.length - 1]? = some p := ⟨x.pts[x.pts.length - 1], List.getElem?_eq_getElem (by omega)⟩
       have hw := wrap_pred (k := x.pts.length) (by omega) (by omega)
       have e0 : idx x.pts 0 = some p := by rw [← hp]; exact idx_nat (k := 0)
       have e1 : idx x.pts ((x.pts.length - 1 : Nat) : Int) = some q := by rw [← hq]; exact idx_nat
       rw [hw]
       by_cases e : x.pts.length ≤ 6 <;> simp [k3, c3, c6, h3, e0, e1, hp, hq, e]
      ·simp [k3, c3, c6, h3]
     ·simp [k1, k2, k3]
 ·simp only [gl_at9_1, i_ptOk, Option.bind_some, ptb, posI]
  rcases Nat.eq_zero_or_pos k with rfl | hk
  ·cases mNum y.x <;> cases mNum y.y <;> simp
  ·obtain ⟨z, hz⟩ := drop_prev hd hk
   have hl := drop_len hd
   have hw := wrap_pred hk (by omega)
   rw [hw, idx_nat, hz]
   have hk' : ¬ k = 0 := by omega
   by_cases e : z = y <;> cases mNum y.x <;> cases mNum y.y <;> simp [hk, hk', hz, e]
theorem i_FeatOk {f : Feat} (h : wFeat f ≤ 1048576) : gf_ac9 f = some (mFeat f) := by
 unfold wFeat wShape at h
 have h1 : f.id.size ≤ 1048576 := by omega
 have h2 : f.shape.pts.length ≤ 1048576 := by unfold wL at h; omega
 have h3 : wL wTag f.tags ≤ 1048576 := by omega
 have hlen : f.tags.length ≤ 1048576 := by unfold wL at h3; omega
 unfold gf_ac9 mFeat
 rw [if_pos (fits_small hlen), loopB (gl := gl_ac9_1 f) (p := fun t k => mWord t.key && (mWord t.val && (decide (k = 0) || mPrev Tag.key f.tags t k))) (xs := f.tags) (fun _ => rfl) (fun x l k hd => ?_) f.tags 0 rfl]
 ·have hm : allFrom (fun (t : Tag) k => mWord t.key && (mWord t.val && (decide (k = 0) || mPrev Tag.key f.tags t k))) f.tags 0 = mTags f.tags := rfl
  rw [hm, i_WordOk h1, i_ShapeOk h2]
  rw [show decide ((f.tags.length : Int) ≤ 4) = decide (f.tags.length ≤ 4) from decI]
  cases mTags f.tags <;> cases mWord f.id <;> cases mShape f.shape <;> simp
 ·have hx : x ∈ f.tags := List.mem_of_getElem? (drop_get hd)
  have hs := sum_mem (w := wTag) hx
  unfold wL at h3
  have hk1 : x.key.size ≤ 1048576 := by have e0 : wTag x = x.key.size + (x.val.size + 0) := rfl; omega
  have hk2 : x.val.size ≤ 1048576 := by have e0 : wTag x = x.key.size + (x.val.size + 0) := rfl; omega
  simp only [gl_ac9_1, i_WordOk hk1, i_WordOk hk2, Option.bind_some, posI]
  rcases Nat.eq_zero_or_pos k with rfl | hk
  ·cases mWord x.key <;> cases mWord x.val <;> simp
  ·obtain ⟨z, hz⟩ := drop_prev hd hk
   have hl := drop_len hd
   have hw := wrap_pred hk (by omega)
   rw [hw, idx_nat, hz]
   have hk' : ¬ k = 0 := by omega
   cases e : slt z.key x.key <;> cases mWord x.key <;> cases mWord x.val <;> simp [hk, hk', hz, e, mPrev]
theorem i_SheetOk {fs : List Feat} (h : wL wFeat fs ≤ 1048576) : gf_av9 fs = some (mSheet fs) := by
 have hlen : fs.length ≤ 1048576 := by unfold wL at h; omega
 unfold gf_av9 mSheet
 rw [if_pos (fits_small hlen), loopB (gl := gl_av9_1 fs) (p := fun f k => mFeat f && (decide (k = 0) || mPrev Feat.id fs f k)) (xs := fs) (fun _ => rfl) (fun x l k hd => ?_) fs 0 rfl]
 ·rw [show decide ((fs.length : Int) ≤ 8) = decide (fs.length ≤ 8) from decI]
  exact endB
 ·have hx : x ∈ fs := List.mem_of_getElem? (drop_get hd)
  have hs := sum_mem (w := wFeat) hx
  unfold wL at h
  simp only [gl_av9_1, i_FeatOk (f := x) (by omega), Option.bind_some, posI, slt_seq]
  rcases Nat.eq_zero_or_pos k with rfl | hk
  ·cases mFeat x <;> simp
  ·obtain ⟨z, hz⟩ := drop_prev hd hk
   have hl := drop_len hd
   have hw := wrap_pred hk (by omega)
   rw [hw, idx_nat, hz]
   have hk' : ¬ k = 0 := by omega
   cases e : slt z.id x.id <;> cases mFeat x <;> simp [hk, hk', hz, e, mPrev]
theorem i_EqPt {a b : List Pt} (h : a.length ≤ 1048576) : gf_bx9 a b = some (decide (a = b)) := eqd_list (gl := gl_bx9_1) (ok := fun _ => True) (fun _ _ => rfl) (fun a x l k y _ hy => by
 simp only [gl_bx9_1, idx_nat, hy, Option.bind_some, ptb]
 by_cases e : x = y <;> simp [e]) (fun _ _ => rfl) h (fun _ _ => trivial)
theorem i_EqTag {a b : List Tag} (h : a.length ≤ 1048576) : gf_by9 a b = some (decide (a = b)) := eqd_list (gl := gl_by9_1) (ok := fun _ => True) (fun _ _ => rfl) (fun a x l k y _ hy => by
 simp only [gl_by9_1, idx_nat, hy, Option.bind_some, tagb]
 by_cases e : x = y <;> simp [e]) (fun _ _ => rfl) h (fun _ _ => trivial)
theorem i_EqInt {a b : List Int} (h : a.length ≤ 1048576) : gf_bz9 a b = some (decide (a = b)) := eqd_list (gl := gl_bz9_1) (ok := fun _ => True) (fun _ _ => rfl) (fun a x l k y _ hy => by
 simp only [gl_bz9_1, idx_nat, hy, Option.bind_some]
 by_cases e : x = y <;> simp [e]) (fun _ _ => rfl) h (fun _ _ => trivial)
theorem i_ShapeSame {a b : Shape} (h : a.pts.length ≤ 1048576) : gf_au9 a b = some (decide (a = b)) := by
 unfold gf_au9
 rw [i_EqPt h]
 obtain ⟨k, p⟩ := a; obtain ⟨k2, p2⟩ := b
 by_cases h1 : k = k2 <;> by_cases h2 : p = p2 <;> simp [h1, h2]
theorem i_FeatSame {a b : Feat} (h : wFeat a ≤ 1048576) : gf_ad9 a b = some (decide (a = b)) := by
 unfold wFeat wShape wL at h
 unfold gf_ad9
 rw [i_ShapeSame (by omega), i_EqTag (by omega), seq_dec]
 obtain ⟨i, s, t⟩ := a; obtain ⟨i2, s2, t2⟩ := b
 by_cases h1 : i = i2 <;> by_cases h2 : s = s2 <;> by_cases h3 : t = t2 <;> simp [h1, h2, h3]
theorem i_EqFeat {a b : List Feat} (h : wL wFeat a ≤ 1048576) : gf_bv9 a b = some (decide (a = b)) := eqd_list (gl := gl_bv9_1) (ok := fun x => wFeat x ≤ 1048576) (fun _ _ => rfl) (fun a x l k y hx hy => by
 simp only [gl_bv9_1, idx_nat, hy, Option.bind_some, i_FeatSame hx]
 by_cases e : x = y <;> simp [e]) (fun _ _ => rfl) (by unfold wL at h; omega) (fun x hx => by have := sum_mem (w := wFeat) hx; unfold wL at h; omega)
theorem i_SheetSame {a b : List Feat} (h : wL wFeat a ≤ 1048576) : gf_ay9 a b = some (decide (a = b)) := by
 unfold gf_ay9
 rw [i_EqFeat h]
 rfl
theorem i_sameCommit {a b : Commit} (h : wCommit a ≤ 1048576) : gf_bj9 a b = some (decide (a = b)) := by
 unfold wCommit at h
 unfold gf_bj9
 rw [i_EqInt (by unfold wL at h; omega), i_SheetSame (by omega), seq_dec]
 obtain ⟨i, s, t⟩ := a; obtain ⟨i2, s2, t2⟩ := b
 by_cases h1 : i = i2 <;> by_cases h2 : s = s2 <;> by_cases h3 : t = t2 <;> simp [h1, h2, h3]
theorem i_Repo_commit {r : Repo} {c : Commit} (h : wL wCommit r.commits ≤ 1048576) : gf_am9 r c = some (mFind r.commits c) := by
 have key : gf_cb9 r.commits c = some (mFind r.commits c) := by
  unfold gf_cb9 mFind
  rw [if_pos (fits_small (by unfold wL at h; omega))]
  exact loopF (gl := gl_cb9_1 c) (ok := fun x => wCommit x ≤ 1048576) (fun _ => rfl) (fun x l k hx => by simp only [gl_cb9_1, gf_an9, i_sameCommit hx, Option.bind_some]) _ 0 fun x hx => by have := sum_mem (w := wCommit) hx; unfold wL at h; omega
 unfold gf_am9
 rw [key]
 rfl
theorem i_Repo_head {r : Repo} {n : Str} (h : r.heads.length ≤ 1048576) : gf_ao9 r n = some (mHead r.heads n) := by
 have key : gf_cf9 r.heads n = some (mHead r.heads n) := by
  unfold gf_cf9 mHead
  rw [if_pos (fits_small h)]
  exact loopF (gl := gl_cf9_1 n) (ok := fun _ => True) (fun _ => rfl) (fun x l k _ => by simp only [gl_cf9_1, gf_ap9, seq_dec, Option.bind_some]) _ 0 fun _ _ => trivial
 unfold gf_ao9
 rw [key]
 rfl
theorem i_version {r : Repo} {k : Int} (h : r.commits.length ≤ 1048576) : gf_as9 r k = some (decide (0 ≤ k) && decide (k < (r.commits.length : Int))) := by
 unfold gf_as9
 rw [wrap_id (by omega) (by omega), i_within]
 have e : (k ≤ (r.commits.length : Int) - 1) ↔ k < (r.commits.length : Int) := by omega
 simp [e]
theorem i_Contains0 (x : Int) : gf_br9 [] x = some false := rfl
theorem i_Contains1 (a x : Int) : gf_br9 [a] x = some (decide (x = a)) := by
 have hf : fits 1 = true := fits_small (by omega)
 by_cases e : x = a
 ·subst e
  simp [gf_br9, gf_ci9, hf, gl_ci9_1]
 ·simp [gf_br9, gf_ci9, hf, gl_ci9_1, e]
theorem i_up5 {c : Commit} {k : Nat} (hk : k ≤ 1048576) (h : c.up.length ≤ 2) : gl_aj9_5 k c c.up 0 = some (if (allFrom (fun (x : Int) _ => decide (0 ≤ x) && decide (x < (k : Int))) c.up 0 && decide (c.up[0]? = none ∨ c.up[0]? ≠ c.up[1]?)) = true then .inr () else .inl false) := by
 have hw : IntKind.i64.wrap ((k : Int) - 1) = (k : Int) - 1 := wrap_id (by omega) (by omega)
 have hi : ∀ x : Int, (x ≤ (k : Int) - 1) ↔ x < (k : Int) := fun x => by omega
 obtain ⟨up, sh, nt⟩ := c
 match up, h with
 | [], _ => rfl
 | [a], _ =>
  have s0 : slc [a] 0 ((0 : Nat) : Int) = some [] := by simp [slc]
  simp only [gl_aj9_5, i_within, hw, hi, Option.bind_some, s0, i_Contains0, allFrom]
  by_cases h1 : 0 ≤ a <;> by_cases h2 : a < (k : Int) <;> simp [h1, h2]
 | [a, b], _ =>
  have s0 : slc [a, b] 0 ((0 : Nat) : Int) = some [] := by simp [slc]
  have s1 : slc [a, b] 0 ((0 + 1 : Nat) : Int) = some [a] := by simp [slc]
  simp only [gl_aj9_5, i_within, hw, hi, Option.bind_some, s0, s1, i_Contains0, i_Contains1, allFrom]
  by_cases e : b = a
  ·subst e
   by_cases h1 : 0 ≤ b <;> by_cases h2 : b < (k : Int) <;> simp [h1, h2]
  ·have e' : ¬ a = b := fun h => e h.symm
   by_cases h1 : 0 ≤ a <;> by_cases h2 : a < (k : Int) <;> by_cases h3 : 0 ≤ b <;> by_cases h4 : b < (k : Int) <;> simp [h1, h2, h3, h4, e, e']
 | _ :: _ :: _ :: _, h => simp at h
theorem i_RepoOk {r : Repo} (h : wRepo r ≤ 1048576) : gf_aj9 r = some (mRepo r) := by
 unfold wRepo at h
 have hc : wL wCommit r.commits ≤ 1048576 := by omega
 have hh : wL wHead r.heads ≤ 1048576 := by omega
 have hcl : r.commits.length ≤ 1048576 := by unfold wL at hc; omega
 have hhl : r.heads.length ≤ 1048576 := by unfold wL at hh; omega
 have c1 : ((1 : Int) ≤ r.commits.length) ↔ 1 ≤ r.commits.length := by omega
 have c2 : ((r.commits.length : Int) ≤ 14) ↔ r.commits.length ≤ 14 := by omega
 have c3 : ((1 : Int) ≤ r.heads.length) ↔ 1 ≤ r.heads.length := by omega
 have c4 : ((r.heads.length : Int) ≤ 4) ↔ r.heads.length ≤ 4 := by omega
 have k1 : gl_aj9_4 r r.commits 0 = some (if mCommits r.commits = true then .inr () else .inl false) := by
  refine loopB (gl := gl_aj9_4 r) (p := fun c k => mUp c.up k && (mSheet c.sheet && (mWord c.note && decide (mFind r.commits c = (k : Int))))) (xs := r.commits) (fun _ => rfl) (fun x l k hd => ?_) r.commits 0 rfl
  have hx : x ∈ r.commits := List.mem_of_getElem? (drop_get hd)
  have hkl := drop_len hd
  have hs := sum_mem (w := wCommit) hx
  have e0 : wCommit x = wL w0 x.up + (wL wFeat x.sheet + (x.note.size + 0)) := rfl
  have hs' : wCommit x ≤ 1048576 := by unfold wL at hc; omega
  have hu : x.up.length ≤ 1048576 := by have : wL w0 x.up = x.up.length + sumW w0 x.up := rfl; omega
  have d1 : (((k : Int) == 0) == ((x.up.length : Int) == 0)) = (decide (0 < x.up.length) == decide (0 < k)) := by
   rw [zI, zI, posD, posD]
   cases decide (k = 0) <;> cases decide (x.up.length = 0) <;> rfl
  have d2 : ((x.up.length : Int) > 2) ↔ ¬ x.up.length ≤ 2 := by omega
  obtain ⟨B, hB⟩ : ∃ B, (decide (0 < x.up.length) == decide (0 < k)) = B := ⟨_, rfl⟩
  rw [hB] at d1
  simp only [gl_aj9_4, i_SheetOk (fs := x.sheet) (by omega), i_WordOk (s := x.note) (by omega), i_Repo_commit hc, Option.bind_some, d1, d2, mUp, hB]
  clear d1 hB
  by_cases b : x.up.length ≤ 2
  ·rw [i_up5 (by omega) b, if_pos (fits_small hu)]
   obtain ⟨D, hD⟩ : ∃ D, (decide (x.up[0]? = none ∨ x.up[0]? ≠ x.up[1]?)) = D := ⟨_, rfl⟩
   rw [hD]
   clear hD
   by_cases e : mFind r.commits x = (k : Int) <;> cases B <;> cases mSheet x.sheet <;> cases mWord x.note <;> cases allFrom (fun (x : Int) _ => decide (0 ≤ x) && decide (x < (k : Int))) x.up 0 <;> cases D <;> simp [e, b]
  ·by_cases e : mFind r.commits x = (k : Int) <;> cases B <;> cases mSheet x.sheet <;> cases mWord x.note <;> simp [e, b]
 have k2 : gl_aj9_6 r r.heads 0 = some (if mHeads r.commits.length r.heads = true then .inr () else .inl false) := by
  refine loopB (gl := gl_aj9_6 r) (p := fun h k => mWord h.name && (decide (mHead r.heads h.name = (k : Int)) && (decide (0 ≤ h.at_) && decide (h.at_ < (r.commits.length : Int))))) (xs := r.heads) (fun _ => rfl) (fun x l k hd => ?_) r.heads 0 rfl
  have hx : x ∈ r.heads := List.mem_of_getElem? (drop_get hd)
  have hs := sum_mem (w := wHead) hx
  have e0 : wHead x = x.name.size + 0 := rfl
  have hs' : x.name.size ≤ 1048576 := by unfold wL at hh; omega
  simp only [gl_aj9_6, i_WordOk hs', i_Repo_head hhl, i_version hcl, Option.bind_some]
  by_cases e : mHead r.heads x.name = (k : Int) <;> by_cases e1 : 0 ≤ x.at_ <;> by_cases e2 : x.at_ < (r.commits.length : Int) <;> cases mWord x.name <;> simp [e, e1, e2]
 unfold gf_aj9 mRepo
 rw [k1, k2, if_pos (fits_small hcl), if_pos (fits_small hhl), i_within, i_within]
 simp only [c1, c2, c3, c4, Option.bind_some]
 by_cases h1 : 1 ≤ r.commits.length <;> by_cases h2 : r.commits.length ≤ 14 <;> by_cases h3 : 1 ≤ r.heads.length <;> by_cases h4 : r.heads.length ≤ 4 <;> cases mCommits r.commits <;> cases mHeads r.commits.length r.heads <;> simp [h1, h2, h3, h4]
theorem rep_get {n j : Nat} : (List.replicate n false)[j]? ≠ some true := by
 rw [List.getElem?_replicate]
 split <;> simp
theorem marks_init {cs : List Commit} {F : List Nat} (hF : ∀ f ∈ F, f < cs.length) : Marks cs F cs.length (setAll (List.replicate cs.length false) (F.map fun (f : Nat) => (f : Int))) where
 len := by rw [setAll_len, List.length_replicate]
 snd := fun j hj => by
  rcases setAll_get.1 hj with hj | ⟨_, u, hu, rfl⟩
  ·exact absurd hj rep_get
  ·obtain ⟨f, hf, rfl⟩ := List.mem_map.1 hu
   exact ⟨f, hf, .refl f⟩
 frm := fun f hf => setAll_get.2 (.inr ⟨by rw [List.length_replicate]; exact hF f hf, f, List.mem_map.2 ⟨f, hf, rfl⟩, rfl⟩)
 cl := fun j x u hj hb hx hu => by
  have := get_lt hx
  omega
theorem i_past_5 : ∀ (l : List Int) (k : Nat) (m : List Bool), (∀ u ∈ l, 0 ≤ u ∧ u < (m.length : Int)) → gl_aq9_5 l k m = some (setAll m l)
 | [], k, m, h => rfl
 | u :: l, k, m, h => by
  have hu := h u (by simp)
  obtain ⟨b, hb⟩ := getI (xs := m) (i := u.toNat) (by omega)
  simp only [gl_aq9_5, idx_int hu.1, hb, Option.bind_some]
  exact i_past_5 l (k + 1) _ fun v hv => by
   rw [List.length_set]
   exact h v (by simp [hv])
theorem i_past_4 {r : Repo} {F : List Nat} (hc : Hist r.commits) : ∀ (k n : Nat) (m : List Bool), k < n → k ≤ r.commits.length → k ≤ 1048576 → Marks r.commits F k m → gl_aq9_4 r n ((k : Int) - 1) m = some (mark r.commits F)
 | _, 0, _, h, _, _, _ => by omega
 | 0, n + 1, m, _, _, _, h => by
  rw [h.fin]
  rfl
 | k + 1, n + 1, m, hn, hk, hb, h => by
  obtain ⟨x, hx⟩ := getI (xs := r.commits) (i := k) (by omega)
  obtain ⟨b, hb2⟩ := getI (xs := m) (i := k) (by rw [h.len]; omega)
  have e1 : (((k + 1 : Nat) : Int) - 1) = (k : Int) := by omega
  have hw : IntKind.i64.wrap ((k : Int) - 1) = (k : Int) - 1 := wrap_id (by omega) (by omega)
  have hge : decide ((k : Int) ≥ 0) = true := decide_eq_true (by omega)
  rw [e1]
  simp only [gl_aq9_4, hge, if_true, hw, idx_nat, hb2, Option.bind_some]
  cases b
  ·exact i_past_4 hc k n m (by omega) (by omega) (by omega) (h.skip (by rw [hb2]; simp))
  ·have h2 := hc.two x (List.mem_of_getElem? hx)
   simp only [hx, if_true, Option.bind_some]
   rw [if_pos (fits_small (by omega)), i_past_5 x.up 0 m (fun u hu => by
    have := hc.lt k x hx u hu
    rw [h.len]
    omega)]
   exact i_past_4 hc k n _ (by omega) (by omega) (by omega) (h.step hc hb2 hx)
theorem i_past {r : Repo} {k : Nat} (hc : Hist r.commits) (hl : r.commits.length ≤ 1048576) (hk : k < r.commits.length) : gf_aq9 r (k : Int) = some (mark r.commits [k]) := by
 have hr : rounds = 4194303 + 1 := rfl
 have h0 : (List.replicate r.commits.length false)[k]? = some false := by rw [List.getElem?_replicate, if_pos hk]
 have hm : Marks r.commits [k] (k + 1) ((List.replicate r.commits.length false).set k true) := by
  have := marks_init (cs := r.commits) (F := [k]) (by simpa using hk)
  exact marks_above hc (by simpa [setAll] using this) (by simp) (by omega)
 have e1 : (((k + 1 : Nat) : Int) - 1) = (k : Int) := by omega
 have := i_past_4 hc (k + 1) rounds _ (by rw [hr]; omega) (by omega) (by omega) hm
 rw [e1] at this
 unfold gf_aq9
 rw [if_pos (by simp [fits_small hl])]
 simp only [Int.toNat_natCast, idx_nat, h0, Option.bind_some, this]
def inR (r : Repo) (k : Int) : Bool := mRepo r && (decide (0 ≤ k) && decide (k < (r.commits.length : Int)))
theorem inR_at {r : Repo} {k : Int} (h : inR r k = true) : mRepo r = true ∧ ∃ n : Nat, k = (n : Int) ∧ n < r.commits.length := by
 unfold inR at h
 simp only [Bool.and_eq_true, decide_eq_true_eq] at h
 exact ⟨h.1, k.toNat, by omega, by omega⟩
open Classical in
theorem i_Contains {r : Repo} (hc : Hist r.commits) (hl : r.commits.length ≤ 1048576) {k : Nat} (hk : k < r.commits.length) {out : List Int} (ho : ∀ u ∈ out, ∃ j : Nat, u = (j : Int) ∧ j < r.commits.length) (hlen : out.length ≤ 1048576) : gf_bq9 out r (k : Int) = some (decide (∃ j : Nat, (j : Int) ∈ out ∧ Anc r.commits j k)) := by
 have key0 : gf_ch9 out r (k : Int) = some (fstFrom (fun u => decide (Anc r.commits u.toNat k)) out 0) := by
  unfold gf_ch9
  rw [if_pos (fits_small hlen)]
  exact loopF (gl := gl_ch9_1 r (k : Int)) (p := fun u => decide (Anc r.commits u.toNat k)) (ok := fun u => ∃ j : Nat, u = (j : Int) ∧ j < r.commits.length) (fun _ => rfl) (fun u l i hu => by
   obtain ⟨j, rfl, hj⟩ := hu
   simp only [gl_ch9_1, gf_ah9, i_past hc hl hj, Option.bind_some, idx_nat, mark1_get hk, Int.toNat_natCast]) out 0 ho
 unfold gf_bq9
 rw [key0]
 ·simp only [Option.bind_some, Option.some.injEq]
  have key : ∀ (l : List Int) (i : Nat), (∀ u ∈ l, ∃ j : Nat, u = (j : Int) ∧ j < r.commits.length) → (fstFrom (fun u => decide (Anc r.commits u.toNat k)) l i ≥ 0 ↔ ∃ j : Nat, (j : Int) ∈ l ∧ Anc r.commits j k) := fun l => by
   induction l with
   | nil => intro i _; simp [fstFrom]
   | cons u l ih =>
    intro i hl
    obtain ⟨j, rfl, hj⟩ := hl u (by simp)
    simp only [fstFrom, Int.toNat_natCast]
    by_cases hp : Anc r.commits j k
    ·rw [if_pos (by simpa using hp)]
     exact ⟨fun _ => ⟨j, by simp, hp⟩, fun _ => by omega⟩
    ·rw [if_neg (by simpa using hp), ih (i + 1) fun u hu => hl u (by simp [hu])]
     constructor
     ·rintro ⟨j', h1, h2⟩
      exact ⟨j', by simp [h1], h2⟩
     ·rintro ⟨j', h1, h2⟩
      rcases List.mem_cons.1 h1 with h1 | h1
      ·have : j' = j := by omega
       subst this
       exact absurd h2 hp
      ·exact ⟨j', h1, h2⟩
  exact decide_eq_decide.2 (key out 0 ho)
open Classical in
theorem i_RepoBases_1 {r : Repo} {a b : Nat} (hc : Hist r.commits) (hl : r.commits.length ≤ 1048576) : ∀ (k n : Nat) (out : List Int), k < n → k ≤ r.commits.length → out.length + k ≤ 1048576 → (∀ u, u ∈ out ↔ ∃ j : Nat, u = (j : Int) ∧ k ≤ j ∧ Base r.commits a b j ∧ j < r.commits.length) → gl_ah9 (mark r.commits [a]) (mark r.commits [b]) r n out ((k : Int) - 1) = some (out ++ downF (fun k => decide (Base r.commits a b k)) k)
 | _, 0, _, h, _, _, _ => by omega
 | 0, n + 1, out, _, _, _, _ => by
  simp only [downF, List.append_nil]
  rfl
 | k + 1, n + 1, out, hn, hk, ho, hi => by
  have e1 : (((k + 1 : Nat) : Int) - 1) = (k : Int) := by omega
  have hw : IntKind.i64.wrap ((k : Int) - 1) = (k : Int) - 1 := wrap_id (by omega) (by omega)
  have hge : decide ((k : Int) ≥ 0) = true := decide_eq_true (by omega)
  have skip : ¬ Base r.commits a b k → gl_ah9 (mark r.commits [a]) (mark r.commits [b]) r n out ((k : Int) - 1) = some (out ++ downF (fun k => decide (Base r.commits a b k)) (k + 1)) := fun hnb => by
   rw [i_RepoBases_1 hc hl k n out (by omega) (by omega) (by omega) fun u => ?_]
   ·simp [downF, hnb]
   ·rw [hi u]
    constructor
    ·rintro ⟨j, h1, h2, h3⟩
     exact ⟨j, h1, by omega, h3⟩
    ·rintro ⟨j, h1, h2, h3⟩
     rcases Nat.eq_or_lt_of_le h2 with rfl | h2
     ·exact absurd h3.1 hnb
     ·exact ⟨j, h1, h2, h3⟩
  have take : Base r.commits a b k → gl_ah9 (mark r.commits [a]) (mark r.commits [b]) r n (out ++ [(k : Int)]) ((k : Int) - 1) = some (out ++ downF (fun k => decide (Base r.commits a b k)) (k + 1)) := fun hb => by
   rw [i_RepoBases_1 hc hl k n _ (by omega) (by omega) (by simp; omega) fun u => ?_]
   ·simp [downF, hb]
   ·rw [List.mem_append, hi u, List.mem_singleton]
    constructor
    ·rintro (⟨j, h1, h2, h3⟩ | rfl)
     ·exact ⟨j, h1, by omega, h3⟩
     ·exact ⟨k, rfl, Nat.le_refl _, hb, by omega⟩
    ·rintro ⟨j, h1, h2, h3⟩
     rcases Nat.eq_or_lt_of_le h2 with rfl | h2
     ·exact .inr h1
     ·exact .inl ⟨j, h1, h2, h3⟩
  rw [e1]
  simp only [gl_ah9, hge, if_true, hw, idx_nat, mark1_get (show k < r.commits.length by omega), Option.bind_some]
  by_cases h1 : Anc r.commits a k
  ·by_cases h3 : Anc r.commits b k
   ·have hcom : Com r.commits a b k := ⟨h1, h3⟩
    rw [i_Contains hc hl (by omega) (fun u hu => by
     obtain ⟨j, h4, _, _, h5⟩ := (hi u).1 hu
     exact ⟨j, h4, h5⟩) (by omega)]
    have hct : (∃ j : Nat, (j : Int) ∈ out ∧ Anc r.commits j k) ↔ ¬ Base r.commits a b k := by
     rw [← not_base hc hcom]
     constructor
     ·rintro ⟨j, h4, h5⟩
      obtain ⟨j', h6, h7, h8, h9⟩ := (hi _).1 h4
      have : j = j' := by omega
      subst this
      exact ⟨j, by omega, h8, h5⟩
     ·rintro ⟨j, h4, h5, h6⟩
      refine ⟨j, (hi _).2 ⟨j, rfl, by omega, h5, ?_⟩, h6⟩
      rcases h6.last with rfl | ⟨c, x, u, h7, h8, _⟩
      ·omega
      ·rcases Nat.lt_or_ge j r.commits.length with h | h
       ·exact h
       ·exfalso
        have : ∀ p q, Anc r.commits p q → r.commits.length ≤ p → q = p := fun p q hpq hp => by
         induction hpq with
         | refl => rfl
         | up ha hx hu ih =>
          have := get_lt hx
          omega
        have := this j k h6 h
        omega
    simp only [h1, h3, decide_true, Bool.not_true, Option.bind_some]
    rw [if_neg (by decide), if_neg (by decide)]
    by_cases hb : Base r.commits a b k
    ·have hf : decide (∃ j : Nat, (j : Int) ∈ out ∧ Anc r.commits j k) = false := decide_eq_false fun h => hct.1 h hb
     rw [hf]
     simp only [Bool.not_false, if_true]
     rw [if_pos (fits_small (by simp; omega))]
     exact take hb
    ·have hf : decide (∃ j : Nat, (j : Int) ∈ out ∧ Anc r.commits j k) = true := decide_eq_true (hct.2 hb)
     rw [hf]
     simp only [Bool.not_true]
     rw [if_neg (by decide)]
     exact skip hb
   ·simp only [h1, h3, decide_true, decide_false, Bool.not_true, Bool.not_false]
    rw [if_neg (by decide), if_pos trivial]
    exact skip fun h => h3 h.1.2
  ·simp only [h1, decide_false, Bool.not_false, if_true]
   exact skip fun h => h1 h.1.1
theorem i_RepoBases {r : Repo} {a b : Int} (hw : wRepo r ≤ 1048576) : gf_ag9 r a b = some (if (inR r a && inR r b) = true then mBases r.commits a.toNat b.toNat else []) := by
 have hla : r.commits.length ≤ 1048576 := by unfold wRepo wL at hw; omega
 unfold gf_ag9
 rw [i_RepoOk hw, i_version hla, i_version hla]
 by_cases h1 : inR r a = true
 ·by_cases h2 : inR r b = true
  ·obtain ⟨hr, i, rfl, hi⟩ := inR_at h1
   obtain ⟨_, j, rfl, hj⟩ := inR_at h2
   have hc := repo_hist hr
   have hl := (repo_len hr).1.2
   have hrd : rounds = 4194303 + 1 := rfl
   rw [h1, h2, hr]
   simp only [Option.bind_some, Bool.not_true, i_past hc hla hi, i_past hc hla hj, mark_len]
   have e1 : (decide ((0 : Int) ≤ (i : Int)) && decide ((i : Int) < (r.commits.length : Int))) = true := by simp; omega
   have e2 : (decide ((0 : Int) ≤ (j : Int)) && decide ((j : Int) < (r.commits.length : Int))) = true := by simp; omega
   rw [e1, e2]
   simp only [Bool.not_true, Bool.and_true, if_true]
   rw [if_neg (by decide), if_neg (by decide), if_neg (by decide), wrap_id (by omega) (by omega), i_RepoBases_1 hc hla r.commits.length rounds [] (by rw [hrd]; omega) (Nat.le_refl _) (by simp; omega) (fun u => ?_)]
   ·rfl
   ·constructor
    ·intro h; cases h
    ·rintro ⟨j, _, h3, _, h4⟩
     omega
  ·rw [h1]
   unfold inR at h1 h2
   simp only [Bool.and_eq_true] at h1
   simp only [h1.1, h1.2, Bool.true_and, Bool.not_eq_true] at h2
   simp only [h1.1, h2, inR]
   simp only [h1.2]
   simp
 ·unfold inR at h1
  by_cases hr : mRepo r = true
  ·simp only [hr, Bool.true_and, Bool.not_eq_true] at h1
   simp [hr, h1, inR]
  ·simp [hr, inR]
def c1 {α : Type} (_ : α) : Nat := 1
def c2 {α : Type} (_ : α) : Nat := 2
theorem i_greatest_1 {m : List Bool} : ∀ (k n : Nat) (out : List Int), k < n → k ≤ m.length → k ≤ 1048576 → out.length + k ≤ 1048576 → gl_bh9_1 m n ((k : Int) - 1) out = some (out ++ downF (trueAt m) k)
 | _, 0, _, h, _, _, _ => by omega
 | 0, n + 1, out, _, _, _, _ => by simp only [downF, List.append_nil]; rfl
 | k + 1, n + 1, out, hn, hk, hb, ho => by
  obtain ⟨b, hb2⟩ := getI (xs := m) (i := k) (by omega)
  have e1 : (((k + 1 : Nat) : Int) - 1) = (k : Int) := by omega
  have hw : IntKind.i64.wrap ((k : Int) - 1) = (k : Int) - 1 := wrap_id (by omega) (by omega)
  have hge : decide ((k : Int) ≥ 0) = true := decide_eq_true (by omega)
  rw [e1]
  simp only [gl_bh9_1, hge, if_true, hw, idx_nat, hb2, Option.bind_some]
  cases b
  ·rw [if_neg (by decide), i_greatest_1 k n out (by omega) (by omega) (by omega) (by omega)]
   simp [downF, trueAt, hb2]
  ·rw [if_pos rfl, if_pos (fits_small (by simp; omega)), i_greatest_1 k n _ (by omega) (by omega) (by omega) (by simp; omega)]
   simp [downF, trueAt, hb2]
noncomputable def mPast (cs : List Commit) (k : Nat) : List Int := downF (trueAt (mark cs [k])) cs.length
theorem i_RepoPast {r : Repo} {k : Int} (hw : wRepo r ≤ 1048576) : gf_ak9 r k = some (if inR r k = true then mPast r.commits k.toNat else []) := by
 have hla : r.commits.length ≤ 1048576 := by unfold wRepo wL at hw; omega
 unfold gf_ak9
 rw [i_RepoOk hw, i_version hla]
 by_cases h : inR r k = true
 ·obtain ⟨hr, n, rfl, hn⟩ := inR_at h
  have hc := repo_hist hr
  have hrd : rounds = 4194303 + 1 := rfl
  have e1 : (decide ((0 : Int) ≤ (n : Int)) && decide ((n : Int) < (r.commits.length : Int))) = true := by simp; omega
  rw [h, hr, e1]
  simp only [Option.bind_some, Bool.not_true, i_past hc hla hn, if_true]
  rw [if_neg (by decide), if_neg (by decide)]
  unfold gf_bh9
  rw [mark_len, wrap_id (by omega) (by omega), i_greatest_1 r.commits.length rounds [] (by rw [hrd]; omega) (by rw [mark_len]; omega) hla (by simp; omega)]
  rfl
 ·have h' := h
  unfold inR at h'
  simp only [Bool.not_eq_true] at h h'
  rw [h]
  by_cases hr : mRepo r = true
  ·rw [hr] at h' ⊢
   simp only [Bool.true_and] at h'
   rw [h']
   rfl
  ·simp only [Bool.not_eq_true] at hr
   rw [hr]
   rfl
theorem fst_cases {α : Type} {p : α → Bool} : ∀ {l : List α} {k : Nat}, fstFrom p l k = -1 ∨ ∃ j x, fstFrom p l k = ((k + j : Nat) : Int) ∧ l[j]? = some x ∧ p x = true
 | [], k => .inl rfl
 | x :: l, k => by
  simp only [fstFrom]
  by_cases h : p x = true
  ·rw [if_pos h]
   exact .inr ⟨0, x, rfl, rfl, h⟩
  ·rw [if_neg h]
   rcases fst_cases (p := p) (l := l) (k := k + 1) with h1 | ⟨j, y, h1, h2, h3⟩
   ·exact .inl h1
   ·exact .inr ⟨j + 1, y, by rw [h1]; congr 1; omega, by simpa using h2, h3⟩
theorem head_at {r : Repo} (hr : mRepo r = true) (n : Str) : mHead r.heads n = -1 ∨ ∃ (k a : Nat) (h : Head), mHead r.heads n = (k : Int) ∧ r.heads[k]? = some h ∧ h.name = n ∧ h.at_ = (a : Int) ∧ a < r.commits.length := by
 rcases fst_cases (p := fun x : Head => decide (x.name = n)) (l := r.heads) (k := 0) with h | ⟨j, x, h1, h2, h3⟩
 ·exact .inl h
 ·refine .inr ⟨j, x.at_.toNat, x, by unfold mHead; rw [h1]; simp, h2, by simpa using h3, ?_⟩
  unfold mRepo at hr
  simp only [Bool.and_eq_true] at hr
  have := allFrom_get hr.2.2.2.2.2 j x h2
  simp only [Bool.and_eq_true, decide_eq_true_eq] at this
  omega
def mRepoAt (r : Repo) (n : Str) : Int := if mRepo r = true then (match idx r.heads (mHead r.heads n) with | some h => h.at_ | none => -1) else -1
theorem repoAt_cases (r : Repo) (n : Str) : (mRepoAt r n = -1 ∧ (mRepo r = true → mHead r.heads n = -1)) ∨ ∃ (k a : Nat) (h : Head), mRepo r = true ∧ mHead r.heads n = (k : Int) ∧ r.heads[k]? = some h ∧ h.name = n ∧ h.at_ = (a : Int) ∧ a < r.commits.length ∧ mRepoAt r n = (a : Int) := by
 by_cases hr : mRepo r = true
 ·rcases head_at hr n with h | ⟨k, a, h, h1, h2, h3, h4, h5⟩
  ·refine .inl ⟨?_, fun _ => h⟩
   unfold mRepoAt
   rw [if_pos hr, h]
   rfl
  ·refine .inr ⟨k, a, h, hr, h1, h2, h3, h4, h5, ?_⟩
   unfold mRepoAt
   rw [if_pos hr, h1, idx_nat, h2]
   exact h4
 ·exact .inl ⟨by unfold mRepoAt; rw [if_neg hr], fun h => absurd h hr⟩
theorem cpa_loop {α : Type} {g : α → Option α} {gl : List α → Nat → List α → Option (List α)} (h0 : ∀ k v, gl [] k v = some v) (h1 : ∀ x l k v, gl (x :: l) k v = (g x).bind fun y => if fits (v ++ [y]).length = true then gl l (k + 1) (v ++ [y]) else none) : ∀ (l : List α) (k : Nat) (v : List α), (∀ x ∈ l, g x = some x) → v.length + l.length ≤ 1048576 → gl l k v = some (v ++ l)
 | [], k, v, _, _ => by rw [h0]; simp
 | x :: l, k, v, hx, hl => by
  simp only [List.length_cons] at hl
  rw [h1, hx x (by simp)]
  simp only [Option.bind_some]
  rw [if_pos (fits_small (by simp; omega)), cpa_loop h0 h1 l (k + 1) _ (fun y hy => hx y (by simp [hy])) (by simp; omega)]
  simp
theorem i_cloneFeat {f : Feat} (h : wFeat f ≤ 1048576) : gf_bb9 f = some f := by
 unfold wFeat wShape wL at h
 unfold gf_bb9 gf_bd9
 rw [if_pos (fits_small (by simp; omega))]
 simp only [Option.bind_some]
 rw [if_pos (fits_small (by simp; omega))]
 rfl
theorem i_cloneSheet {fs : List Feat} (h : wL wFeat fs ≤ 1048576) : gf_be9 fs = some fs := by
 have hl : fs.length ≤ 1048576 := by unfold wL at h; omega
 unfold gf_be9
 rw [if_pos (fits_small hl), cpa_loop (gl := gl_be9_1) (fun _ _ => rfl) (fun _ _ _ _ => rfl) fs 0 [] (fun x hx => i_cloneFeat (by have := sum_mem (w := wFeat) hx; unfold wL at h; omega)) (by simpa using hl)]
 rfl
theorem i_cloneCommit {c : Commit} (h : wCommit c ≤ 1048576) : gf_ba9 c = some c := by
 unfold wCommit at h
 unfold gf_ba9
 rw [if_pos (fits_small (by unfold wL at h; simp; omega)), i_cloneSheet (by omega)]
 rfl
theorem i_cloneRepo {r : Repo} (h : wRepo r ≤ 1048576) : gf_bc9 r = some r := by
 unfold wRepo at h
 have hl : r.commits.length ≤ 1048576 := by unfold wL at h; omega
 unfold gf_bc9
 rw [if_pos (fits_small (by unfold wL at h; simp; omega)), if_pos (fits_small hl), cpa_loop (gl := gl_bc9_1) (fun _ _ => rfl) (fun _ _ _ _ => rfl) r.commits 0 [] (fun x hx => i_cloneCommit (by have := sum_mem (w := wCommit) hx; unfold wL at h; omega)) (by simpa using hl)]
 rfl
theorem sumW_append {α : Type} {w : α → Nat} : ∀ (a b : List α), sumW w (a ++ b) = sumW w a + sumW w b
 | [], b => by simp [sumW]
 | x :: a, b => by simp only [List.cons_append, sumW, sumW_append a b]; omega
theorem wL_append {α : Type} {w : α → Nat} (a b : List α) : wL w (a ++ b) = wL w a + wL w b := by unfold wL; rw [sumW_append]; simp; omega
def cnt (m : List Bool) : Nat → Nat
 | 0 => 0
 | k + 1 => cnt m k + (if trueAt m k = true then 1 else 0)
def newUp (m : List Bool) (c : Commit) : Commit := ⟨c.up.map fun u => (cnt m u.toNat : Int), c.sheet, c.note⟩
def sweepC (m : List Bool) : List Commit → Nat → List Commit
 | [], _ => []
 | x :: l, k => if trueAt m k = true then newUp m x :: sweepC m l (k + 1) else sweepC m l (k + 1)
def setAtH (hs : List Head) (k : Nat) (h : Head) (v : Int) : List Head := hs.set k ⟨h.name, v⟩
def mAdd (r : Repo) (n : Str) (s : List Feat) (t : Str) : Repo × Int :=
 if (mRepo r && (mSheet s && mWord t)) = true then
  (match idx r.heads (mHead r.heads n) with
  | none => (r, 1)
  | some h => match idx r.commits h.at_ with
   | none => (r, 1)
   | some x => if x.sheet = s then (r, 3) else
    if mFind r.commits ⟨[h.at_], s, t⟩ < 0 then
     (if r.commits.length = 14 then (r, 2) else (⟨r.commits ++ [⟨[h.at_], s, t⟩], setAtH r.heads (mHead r.heads n).toNat h r.commits.length⟩, 0))
    else (⟨r.commits, setAtH r.heads (mHead r.heads n).toNat h (mFind r.commits ⟨[h.at_], s, t⟩)⟩, 0))
 else (⟨[], []⟩, 4)
theorem i_RepoAdd {r : Repo} {n t : Str} {s : List Feat} (hw : wRepo r ≤ 1048576) (hs : wL wFeat s ≤ 1048576) (ht : t.size ≤ 1048576) (hst : 2 + (wL wFeat s + t.size) ≤ 4194304) : gf_ae9 r n s t = some (mAdd r n s t) := by
 have hh : r.heads.length ≤ 1048576 := by unfold wRepo wL at hw; omega
 have hcw : wL wCommit r.commits ≤ 1048576 := by unfold wRepo at hw; omega
 unfold gf_ae9 mAdd
 rw [i_RepoOk hw, i_SheetOk hs, i_WordOk ht, i_cloneRepo hw, i_Repo_head hh]
 simp only [Option.bind_some]
 by_cases hr : mRepo r = true
 ·by_cases h1 : mSheet s = true
  ·by_cases h2 : mWord t = true
   ·have h14 : r.commits.length ≤ 14 := (repo_len hr).1.2
    rw [hr, h1, h2]
    rcases head_at hr n with h | ⟨k, a, h, g1, g2, _, g4, g5⟩
    ·rw [h]
     rfl
    ·obtain ⟨x, hx⟩ := getI (xs := r.commits) (i := a) g5
     have hwx : wCommit x ≤ 1048576 := by
      have := sum_mem (w := wCommit) (List.mem_of_getElem? hx)
      unfold wL at hcw
      omega
     have hwxs : wL wFeat x.sheet ≤ 1048576 := by unfold wCommit at hwx; omega
     have hwn : t.size ≤ 6 := by
      unfold mWord at h2
      simp only [Bool.and_eq_true, decide_eq_true_eq] at h2
      exact h2.2.2
     have hws : wCommit ⟨[(a : Int)], s, t⟩ = 1 + (wL wFeat s + (t.size + 0)) := by unfold wCommit; simp [wL, sumW, w0]
     have hk : ¬ ((k : Int) < 0) := by omega
     have hclone : gf_ba9 ⟨[(a : Int)], s, t⟩ = some ⟨[(a : Int)], s, t⟩ := by
      unfold gf_ba9
      rw [if_pos (by rfl), i_cloneSheet hs]
      rfl
     rw [g1, idx_nat, g2]
     simp only [Bool.not_true, Bool.and_self, if_true, Option.bind_some, g4, idx_nat, hx, i_SheetSame hwxs]
     by_cases e : x.sheet = s
     ·simp [e, hk]
     ·have hset : gf_ar9 r (k : Int) ⟨[(a : Int)], s, t⟩ = some (if mFind r.commits ⟨[(a : Int)], s, t⟩ < 0 then (if r.commits.length = 14 then (false, r) else (true, ⟨r.commits ++ [⟨[(a : Int)], s, t⟩], setAtH r.heads k h r.commits.length⟩)) else (true, ⟨r.commits, setAtH r.heads k h (mFind r.commits ⟨[(a : Int)], s, t⟩)⟩)) := by
       unfold gf_ar9
       rw [i_Repo_commit hcw]
       simp only [Option.bind_some]
       by_cases f1 : mFind r.commits ⟨[(a : Int)], s, t⟩ < 0
       ·by_cases f2 : r.commits.length = 14
        ·simp [f1, f2]
        ·have f2' : ¬ ((r.commits.length : Int) = 14) := by omega
         have hfit : fits (r.commits.length + 1) = true := fits_small (by omega)
         simp [f1, f2, f2', hclone, idx_nat, g2, hfit, setAtH]
       ·simp [f1, idx_nat, g2, setAtH]
      rw [hset]
      by_cases f1 : mFind r.commits ⟨[(a : Int)], s, t⟩ < 0
      ·by_cases f2 : r.commits.length = 14
       ·simp [e, hk, f1, f2]
       ·simp [e, hk, f1, f2]
      ·simp [e, hk, f1]
   ·simp only [Bool.not_eq_true] at h2
    rw [hr, h1, h2]
    rfl
  ·simp only [Bool.not_eq_true] at h1
   rw [hr, h1]
   rfl
 ·simp only [Bool.not_eq_true] at hr
  rw [hr]
  rfl
theorem sumW_set {α : Type} {w : α → Nat} : ∀ (xs : List α) (k : Nat) (x y : α), xs[k]? = some x → w y ≤ w x → sumW w (xs.set k y) ≤ sumW w xs
 | [], k, x, y, h, _ => by simp at h
 | z :: xs, 0, x, y, h, hw => by
  simp only [List.getElem?_cons_zero, Option.some.injEq] at h
  subst h
  simp only [List.set_cons_zero, sumW]
  omega
 | z :: xs, k + 1, x, y, h, hw => by
  have := sumW_set xs k x y (by simpa using h) hw
  simp only [List.set_cons_succ, sumW]
  omega
theorem setAtH_w {hs : List Head} {n : Str} {h : Head} {v : Int} (hh : idx hs (mHead hs n) = some h) : wL wHead (setAtH hs (mHead hs n).toNat h v) ≤ wL wHead hs := by
 have h1 := (idx_get hh).2
 have := sumW_set (w := wHead) hs _ h ⟨h.name, v⟩ h1 (Nat.le_refl _)
 unfold wL setAtH
 simp only [List.length_set]
 omega
theorem sumW_app1 {α : Type} {w : α → Nat} : ∀ (a : List α) (x : α), sumW w (a ++ [x]) = sumW w a + w x
 | [], x => by simp [sumW]
 | y :: a, x => by simp only [List.cons_append, sumW, sumW_app1 a x]; omega
theorem mAdd_w {r : Repo} {n t : Str} {s : List Feat} : wRepo (mAdd r n s t).1 ≤ wRepo r + (2 + (wL wFeat s + t.size)) := by
 unfold mAdd
 split
 ·split
  ·simp only; omega
  ·rename_i h hh
   split
   ·simp only; omega
   ·split
    ·simp only; omega
    ·split
     ·split
      ·simp only; omega
      ·have := setAtH_w (v := (r.commits.length : Int)) hh
       simp only [wRepo]
       have e : wL wCommit (r.commits ++ [⟨[h.at_], s, t⟩]) = wL wCommit r.commits + (1 + wCommit ⟨[h.at_], s, t⟩) := by
        unfold wL
        rw [sumW_app1]
        simp
        omega
       have e2 : wCommit ⟨[h.at_], s, t⟩ = 1 + (wL wFeat s + (t.size + 0)) := by unfold wCommit; simp [wL, sumW, w0]
       omega
     ·have := setAtH_w (v := mFind r.commits ⟨[h.at_], s, t⟩) hh
      simp only [wRepo]
      omega
 ·have : wRepo ⟨[], []⟩ = 0 := rfl
  simp only [this]
  omega
theorem ixor_nn {a b : Int} (h1 : 0 ≤ a) (h2 : a < 4294967296) (h3 : 0 ≤ b) (h4 : b < 4294967296) : 0 ≤ ixor a b := by
 unfold ixor
 have e : ((BitVec.ofInt 64 a ^^^ BitVec.ofInt 64 b).toNat) < 2 ^ 32 := by
  rw [BitVec.toNat_xor, BitVec.toNat_ofInt, BitVec.toNat_ofInt]
  apply Nat.xor_lt_two_pow
  ·have : (a % ((2 ^ 64 : Nat) : Int)) = a := Int.emod_eq_of_lt h1 (by omega)
   rw [this]
   omega
  ·have : (b % ((2 ^ 64 : Nat) : Int)) = b := Int.emod_eq_of_lt h3 (by omega)
   rw [this]
   omega
 rw [wrap_id (by omega) (by omega)]
 omega
theorem imod_ok {a b : Int} (h : 0 < b) (ha : 0 ≤ a) : ∃ v, imod a b = some v ∧ 0 ≤ v ∧ v < b := by
 unfold imod
 rw [if_pos (by omega)]
 exact ⟨_, rfl, Int.tmod_nonneg b ha, Int.tmod_lt_of_pos a h⟩
theorem getU {b : List UInt8} {i : Int} (h0 : 0 ≤ i) (h : i < b.length) : ∃ x : UInt8, idx b i = some x := by
 rw [idx_int h0]
 exact getI (by omega)
theorem p_pick {b : List UInt8} {p n : Int} (hb : b.length ≤ 2000) (h0 : 0 ≤ p) (hp : p ≤ 1000000) : ∃ v, gf_cw9 ⟨b, p⟩ n = some (v, p + 1) ∧ 0 ≤ v ∧ (1 ≤ n → v < n) := by
 unfold gf_cw9
 simp only
 have e1 : IntKind.i64.wrap (p + 1) = p + 1 := wrap_id (by omega) (by omega)
 have e2 : IntKind.i64.wrap (p + 1 - 1) = p := by rw [wrap_id (by omega) (by omega)]; omega
 rw [e1, e2]
 by_cases hn : n < 1
 ·rw [if_pos (by simpa using hn)]
  exact ⟨0, rfl, by omega, by omega⟩
 rw [if_neg (by simpa using hn)]
 by_cases hz : b.length = 0
 ·rw [if_pos (by simp [hz])]
  exact ⟨0, rfl, by omega, by omega⟩
 rw [if_neg (by simpa using hz)]
 have hx8 : ∀ x : UInt8, (x.toNat : Int) < 256 := fun x => by have := x.toNat_lt; omega
 by_cases hl : p < b.length
 ·rw [if_pos (by simpa using hl)]
  obtain ⟨x, hx⟩ := getU h0 hl
  have := hx8 x
  rw [hx, Option.bind_some, wrap_id (by omega) (by omega)]
  obtain ⟨v, hv, h1, h2⟩ := imod_ok (a := (x.toNat : Int)) (b := n) (by omega) (by omega)
  rw [hv]
  exact ⟨v, rfl, h1, fun _ => h2⟩
 rw [if_neg (by simpa using hl)]
 obtain ⟨i, hi, i1, i2⟩ := imod_ok (a := p) (b := b.length) (by omega) h0
 obtain ⟨x, hx⟩ := getU i1 i2
 have e3 : IntKind.i64.wrap (IntKind.i64.wrap (p * 7) + 3) = p * 7 + 3 := by rw [wrap_id (n := p * 7) (by omega) (by omega), wrap_id (by omega) (by omega)]
 obtain ⟨j, hj, j1, j2⟩ := imod_ok (a := p * 7 + 3) (b := b.length) (by omega) (by omega)
 obtain ⟨y, hy⟩ := getU j1 j2
 have q1 : 0 ≤ p.tdiv b.length := Int.tdiv_nonneg h0 (by omega)
 have q2 : p.tdiv b.length ≤ p := Int.tdiv_le_self _ h0
 have hq : idiv p b.length = some (p.tdiv b.length) := by
  unfold idiv
  rw [if_pos (by omega), wrap_id (by omega) (by omega)]
 rw [hi, Option.bind_some, hx, Option.bind_some, e3, hj, Option.bind_some, hy, Option.bind_some, hq, Option.bind_some]
 have ux := hx8 x
 have uy := hx8 y
 have wx : 0 ≤ (x.toNat : Int) := by omega
 have wy : 0 ≤ (y.toNat : Int) := by omega
 generalize (x.toNat : Int) = X at ux wx ⊢
 generalize (y.toNat : Int) = Y at uy wy ⊢
 generalize p.tdiv b.length = T at q1 q2 ⊢
 rw [wrap_id (n := X) (by omega) (by omega), wrap_id (n := Y) (by omega) (by omega), wrap_id (n := X * 131) (by omega) (by omega), wrap_id (n := Y * 1117) (by omega) (by omega), wrap_id (n := X * 131 + Y * 1117) (by omega) (by omega),
  wrap_id (n := p * 29) (by omega) (by omega), wrap_id (n := X * 131 + Y * 1117 + p * 29) (by omega) (by omega), wrap_id (n := T * 53) (by omega) (by omega), wrap_id (n := X * 131 + Y * 1117 + p * 29 + T * 53) (by omega) (by omega)]
 have s0 : 0 ≤ X * 131 + Y * 1117 + p * 29 + T * 53 := by omega
 have s1 : X * 131 + Y * 1117 + p * 29 + T * 53 < 4294967296 := by omega
 generalize X * 131 + Y * 1117 + p * 29 + T * 53 = S at s0 s1 ⊢
 have t0 : 0 ≤ S.tdiv 64 := Int.tdiv_nonneg s0 (by omega)
 have t1 : S.tdiv 64 ≤ S := Int.tdiv_le_self _ s0
 rw [wrap_id (by omega) (by omega)]
 obtain ⟨v, hv, h1, h2⟩ := imod_ok (a := ixor S (S.tdiv 64)) (b := n) (by omega) (ixor_nn s0 s1 t0 (by omega))
 rw [hv]
 exact ⟨v, rfl, h1, fun _ => h2⟩
def Drw {α : Type} (g : Rd → Option (α × Int)) (k : Nat) (P : α → Prop) : Prop := ∀ (b : List UInt8) (p : Int), b.length ≤ 2000 → 0 ≤ p → p + k ≤ 100000 → ∃ a p', g ⟨b, p⟩ = some (a, p') ∧ p ≤ p' ∧ p' ≤ p + k ∧ P a
theorem dr_pick {n : Int} : Drw (fun r => gf_cw9 r n) 1 fun v => 0 ≤ v ∧ (1 ≤ n → v < n) := fun b p hb h0 hp => by
 obtain ⟨v, hv, h⟩ := p_pick (n := n) hb h0 (by omega)
 exact ⟨v, p + 1, hv, by omega, by omega, h⟩
theorem dr_of {l : List Str} (hl : l ≠ []) : Drw (fun r => gf_cv9 r l) 1 fun v => v ∈ l := fun b p hb h0 hp => by
 obtain ⟨v, hv, h1, h2⟩ := p_pick (n := (l.length : Int)) hb h0 (by omega)
 have hn : 0 < l.length := List.length_pos_iff.2 hl
 have h3 := h2 (by omega)
 have hx : idx l v = some l[v.toNat] := by rw [idx_int h1]; exact List.getElem?_eq_getElem (by omega)
 exact ⟨l[v.toNat], p + 1, by simp only [gf_cv9, hv, Option.bind_some, hx], by omega, by omega, List.getElem_mem _⟩
theorem dr_num {l : List Int} (hl : l ≠ []) : Drw (fun r => gf_cu9 r l) 1 fun v => v ∈ l := fun b p hb h0 hp => by
 obtain ⟨v, hv, h1, h2⟩ := p_pick (n := (l.length : Int)) hb h0 (by omega)
 have hn : 0 < l.length := List.length_pos_iff.2 hl
 have h3 := h2 (by omega)
 have hx : idx l v = some l[v.toNat] := by rw [idx_int h1]; exact List.getElem?_eq_getElem (by omega)
 exact ⟨l[v.toNat], p + 1, by simp only [gf_cu9, hv, Option.bind_some, hx], by omega, by omega, List.getElem_mem _⟩
theorem dr_l1Pt : Drw gf_da9 2 fun _ => True := fun b p hb h0 hp => by
 obtain ⟨x, p1, h1, a1, b1, _⟩ := dr_pick (n := 4) b p hb h0 (by omega)
 obtain ⟨y, p2, h2, a2, b2, _⟩ := dr_num (l := [0, 1, 2, 5]) (by simp) b p1 hb (by omega) (by omega)
 refine ⟨⟨x, y⟩, p2, ?_, by omega, by omega, trivial⟩
 unfold gf_da9
 simp only at h1 h2
 simp only [h1, Option.bind_some, h2]
theorem p_l1Min (a c : Int) : ∃ v, gf_cy9 a c = some v := by
 unfold gf_cy9
 split <;> exact ⟨_, rfl⟩
theorem someB {p : Bool} {A B : Option Bool} (ha : ∃ q, A = some q) (hb : ∃ q, B = some q) : ∃ q, (if p = true then A else B) = some q := by
 split
 ·exact ha
 ·exact hb
theorem l1Shape_loop (q : Int) (a : Rd) (x : Int × Int) (hb : a.b.length ≤ 2000) : ∀ (m n : Nat) (i p : Int) (pts : List Pt), m < n → 0 ≤ i → i + m = 12 → (pts.length : Int) ≤ i → 0 ≤ p → p + 2 * m ≤ 100000 → ∃ p' pts', gl_dc9_1 q a x n i p pts = some (p', pts') ∧ p ≤ p' ∧ p' ≤ p + 2 * m ∧ pts'.length ≤ 12
 | _, 0, _, _, _, h, _, _, _, _, _ => by omega
 | 0, n + 1, i, p, pts, h, h0, hi, hl, hp, hk => by
  refine ⟨p, pts, ?_, by omega, by omega, by omega⟩
  unfold gl_dc9_1
  rw [if_neg (by simp; omega)]
 | m + 1, n + 1, i, p, pts, h, h0, hi, hl, hp, hk => by
  unfold gl_dc9_1
  rw [if_pos (by simp; omega)]
  obtain ⟨w, hw⟩ := p_l1Min q 6
  rw [hw, Option.bind_some]
  by_cases hlt : (pts.length : Int) < w
  ·rw [if_pos (by simpa using hlt)]
   obtain ⟨t, p1, h1, a1, b1, _⟩ := dr_l1Pt a.b p hb hp (by omega)
   rw [h1, Option.bind_some]
   simp only
   have hq : ∃ z, (if ((pts.length : Int) == 0) = true then (some true) else ((idx pts (IntKind.i64.wrap ((pts.length : Int) - 1))).bind fun x130 => if (!((x130.x == t.x) && ((x130.y == t.y) && true))) = true then (if (x.1 != 3) = true then (some true) else ((idx pts 0).bind fun x132 => some (!((x132.x == t.x) && ((x132.y == t.y) && true))))) else (some false))) = some z := by
    by_cases hz : pts.length = 0
    ·exact ⟨true, by rw [if_pos (by simp [hz])]⟩
    ·rw [if_neg (by simpa using hz)]
     have e : IntKind.i64.wrap ((pts.length : Int) - 1) = ((pts.length - 1 : Nat) : Int) := wrap_pred (by omega) (by omega)
     obtain ⟨y, hy⟩ := getI (xs := pts) (i := pts.length - 1) (by omega)
     obtain ⟨z, hz0⟩ := getI (xs := pts) (i := 0) (by omega)
     have hz1 : idx pts 0 = some z := by rw [show (0 : Int) = ((0 : Nat) : Int) from rfl, idx_nat]; exact hz0
     rw [e, idx_nat, hy, Option.bind_some]
     refine someB (someB ⟨_, rfl⟩ ?_) ⟨_, rfl⟩
     rw [hz1]
     exact ⟨_, rfl⟩
   obtain ⟨z, hz⟩ := hq
   rw [hz, Option.bind_some, wrap_id (n := i + 1) (by omega) (by omega)]
   by_cases hzz : z = true
   ·rw [if_pos hzz, if_pos (fits_small (by simp; omega))]
    obtain ⟨p', pts', g1, g2, g3, g4⟩ := l1Shape_loop q a x hb m n (i + 1) p1 (pts ++ [t]) (by omega) (by omega) (by omega) (by simp; omega) (by omega) (by omega)
    exact ⟨p', pts', g1, by omega, by omega, g4⟩
   ·rw [if_neg hzz]
    obtain ⟨p', pts', g1, g2, g3, g4⟩ := l1Shape_loop q a x hb m n (i + 1) p1 pts (by omega) (by omega) (by omega) (by omega) (by omega) (by omega)
    exact ⟨p', pts', g1, by omega, by omega, g4⟩
  ·rw [if_neg (by simpa using hlt)]
   exact ⟨p, pts, rfl, by omega, by omega, by omega⟩
theorem dr_l1Shape : Drw gf_dc9 30 fun s => 1 ≤ s.pts.length ∧ s.pts.length ≤ 12 := fun b p hb h0 hp => by
 obtain ⟨k, p1, h1, a1, b1, hk⟩ := dr_num (l := [1, 2, 2, 3, 3]) (by simp) b p hb h0 (by omega)
 obtain ⟨w, p2, h2, a2, b2, _⟩ := dr_pick (n := 4) b p1 hb (by omega) (by omega)
 unfold gf_dc9
 simp only at h1 h2
 simp only [h1, Option.bind_some, h2]
 have hq : ∃ q, (if (k == 1) = true then some 1 else some (IntKind.i64.wrap (k + w)) : Option Int) = some q := by split <;> exact ⟨_, rfl⟩
 obtain ⟨q, hq⟩ := hq
 rw [hq, Option.bind_some]
 obtain ⟨p3, pts, h3, a3, b3, c3⟩ := l1Shape_loop q ⟨b, p⟩ (k, p1) hb 12 rounds 0 p2 [] (by decide) (by omega) (by omega) (by simp) (by omega) (by omega)
 rw [h3, Option.bind_some]
 simp only
 rw [s_ShapeOk (by simp; omega), Option.bind_some]
 by_cases hs : mShape ⟨k, pts⟩ = true
 ·rw [hs]
  refine ⟨_, p3, rfl, by omega, by omega, ?_, c3⟩
  simp only [mShape, Bool.and_eq_true] at hs
  have h4 := hs.2.2
  simp only
  by_cases e1 : k = 1
  ·rw [if_pos e1] at h4; have := of_decide_eq_true h4; omega
  ·rw [if_neg e1] at h4
   by_cases e2 : k = 2
   ·rw [if_pos e2] at h4; have := of_decide_eq_true h4; omega
   ·rw [if_neg e2] at h4
    by_cases e3 : k = 3
    ·rw [if_pos e3] at h4
     simp only [Bool.and_eq_true, decide_eq_true_eq] at h4
     omega
    ·rw [if_neg e3] at h4
     cases h4
 ·rw [Bool.not_eq_true] at hs
  rw [hs]
  obtain ⟨t, p4, h4, a4, b4, _⟩ := dr_l1Pt b p3 hb (by omega) (by omega)
  simp only [Bool.not_false, if_true, h4, Option.bind_some]
  exact ⟨_, p4, rfl, by omega, by omega, by simp, by simp⟩
theorem put_loop {α : Type} {f : α} {c1 c2 : α → Bool} {gl : List α → Nat → Bool → List α → Option (Bool × List α)} (h0 : ∀ k v w, gl [] k v w = some (v, w))
  (h1 : ∀ x l k v w, gl (x :: l) k v w = ((if (!v) = true then (if c1 x = true then (if fits (w ++ [f]).length = true then some (true, (w ++ [f])) else none) else (some (v, w))) else (some (v, w)) : Option (Bool × (List α)))).bind fun q => if c2 x = true then (if fits (q.2 ++ [x]).length = true then gl l (k + 1) q.1 (q.2 ++ [x]) else none) else gl l (k + 1) q.1 q.2) :
  ∀ (l : List α) (k : Nat) (v : Bool) (w : List α), w.length + l.length + (if v then 0 else 1) ≤ 1000000 → ∃ d out, gl l k v w = some (d, out) ∧ out.length + (if d then 0 else 1) ≤ w.length + l.length + (if v then 0 else 1) ∧ ∀ y ∈ out, y ∈ w ∨ y ∈ l ∨ y = f
 | [], k, v, w, hl => ⟨v, w, h0 k v w, by simp, fun y hy => .inl hy⟩
 | x :: l, k, v, w, hl => by
  simp only [List.length_cons] at hl
  rw [h1]
  have hq : ∃ v2 w2, ((if (!v) = true then (if c1 x = true then (if fits (w ++ [f]).length = true then some (true, (w ++ [f])) else none) else (some (v, w))) else (some (v, w)) : Option (Bool × (List α)))) = some (v2, w2) ∧ w2.length + (if v2 then 0 else 1) ≤ w.length + (if v then 0 else 1) ∧ ∀ y ∈ w2, y ∈ w ∨ y = f := by
   cases v
   ·simp only [Bool.not_false, if_true]
    by_cases hc : c1 x = true
    ·rw [if_pos hc, if_pos (fits_small (by simp; omega))]
     exact ⟨true, w ++ [f], rfl, by simp, fun y hy => by simpa using hy⟩
    ·rw [if_neg hc]
     exact ⟨false, w, rfl, by simp, fun y hy => .inl hy⟩
   ·exact ⟨true, w, rfl, by simp, fun y hy => .inl hy⟩
  obtain ⟨v2, w2, e, q1, q2⟩ := hq
  rw [e, Option.bind_some]
  have hw2 : w2.length ≤ w.length + 1 := by
   cases v <;> cases v2 <;> simp at q1 <;> omega
  by_cases hc : c2 x = true
  ·rw [if_pos hc, if_pos (fits_small (by simp; omega))]
   obtain ⟨d, out, g1, g2, g3⟩ := put_loop h0 h1 l (k + 1) v2 (w2 ++ [x]) (by
    simp only [List.length_append, List.length_singleton]
    omega)
   refine ⟨d, out, g1, ?_, fun y hy => ?_⟩
   ·simp only [List.length_append, List.length_cons, List.length_singleton, List.length_nil] at g2 ⊢
    omega
   ·rcases g3 y hy with h | h | h
    ·rcases List.mem_append.1 h with h | h
     ·rcases q2 y h with h | h <;> simp [h]
     ·simp at h; simp [h]
    ·simp [h]
    ·simp [h]
  ·rw [if_neg hc]
   obtain ⟨d, out, g1, g2, g3⟩ := put_loop h0 h1 l (k + 1) v2 w2 (by omega)
   refine ⟨d, out, g1, ?_, fun y hy => ?_⟩
   ·simp only [List.length_cons] at g2 ⊢
    omega
   ·rcases g3 y hy with h | h | h
    ·rcases q2 y h with h | h <;> simp [h]
    ·simp [h]
    ·simp [h]
theorem put_end {α : Type} {f : α} {xs : List α} {z : Option (Bool × List α)} (hl : xs.length + 1 ≤ 1048576) (h : ∃ d out, z = some (d, out) ∧ out.length + (if d then 0 else 1) ≤ xs.length + 1 ∧ ∀ y ∈ out, y ∈ xs ∨ y = f) :
  ∃ out, (if fits xs.length = true then (z.bind fun q => if (!q.1) = true then (if fits (q.2 ++ [f]).length = true then some (q.2 ++ [f]) else none) else some q.2) else none) = some out ∧ out.length ≤ xs.length + 1 ∧ ∀ y ∈ out, y ∈ xs ∨ y = f := by
 obtain ⟨d, out, rfl, h1, h2⟩ := h
 rw [if_pos (fits_small (by omega)), Option.bind_some]
 cases d
 ·simp only [Bool.not_false, if_true]
  simp at h1
  rw [if_pos (fits_small (by simp; omega))]
  exact ⟨_, rfl, by simp; omega, fun y hy => by
   rcases List.mem_append.1 hy with h | h
   ·exact h2 y h
   ·simp at h; exact .inr h⟩
 ·simp at h1
  exact ⟨out, rfl, h1, h2⟩
theorem dr_l3Put_xl {s : List Feat} {f : Feat} (h : s.length ≤ 1000) : ∃ out, gf_dl9 s f = some out ∧ out.length ≤ s.length + 1 ∧ ∀ y ∈ out, y ∈ s ∨ y = f := by
 unfold gf_dl9
 refine put_end (by omega) ?_
 obtain ⟨d, out, h1, h2, h3⟩ := put_loop (gl := gl_dl9_1 f) (f := f) (c1 := fun x => !slt x.id f.id) (c2 := fun x => !seq x.id f.id) (fun _ _ _ => rfl) (fun _ _ _ _ _ => rfl) s 0 false [] (by simp; omega)
 exact ⟨d, out, h1, by simpa using h2, fun y hy => by simpa using h3 y hy⟩
theorem dr_l2Put {s : List Tag} {a b : Str} (h : s.length ≤ 1000) : ∃ out, gf_dh9 s a b = some out ∧ out.length ≤ s.length + 1 ∧ ∀ y ∈ out, y ∈ s ∨ y = ⟨a, b⟩ := by
 unfold gf_dh9
 refine put_end (by omega) ?_
 obtain ⟨d, out, h1, h2, h3⟩ := put_loop (gl := gl_dh9_1 a b) (f := (⟨a, b⟩ : Tag)) (c1 := fun x => !slt x.key a) (c2 := fun x => !seq x.key a) (fun _ _ _ => rfl) (fun _ _ _ _ _ => rfl) s 0 false [] (by simp; omega)
 exact ⟨d, out, h1, by simpa using h2, fun y hy => by simpa using h3 y hy⟩
def bF (k : Nat) (f : Feat) : Prop := (f.id.size ≤ 7 ∧ f.id.size ≠ 2) ∧ f.shape.pts.length ≤ 20 + k ∧ f.tags.length ≤ 20 + k ∧ ∀ t ∈ f.tags, t.key.size ≤ 7 ∧ t.val.size ≤ 7
def bS (k : Nat) (s : List Feat) : Prop := s.length ≤ 20 + k ∧ ∀ f ∈ s, bF k f
theorem sum_le2 {α : Type} {w : α → Nat} {n : Nat} : ∀ {xs : List α}, (∀ x ∈ xs, w x ≤ n) → sumW w xs ≤ n * xs.length
 | [], h => by simp [sumW]
 | x :: xs, h => by
  have h1 := h x (by simp)
  have h2 := sum_le2 (xs := xs) (n := n) fun y hy => h y (by simp [hy])
  simp only [sumW, List.length_cons, Nat.mul_add, Nat.mul_one]
  omega
theorem bF_w {k : Nat} {f : Feat} (h : bF k f) (hk : k ≤ 4) : wFeat f ≤ 400 := by
 obtain ⟨⟨h1, _⟩, h2, h3, h4⟩ := h
 have := sum_le2 (w := wTag) (n := 14) (xs := f.tags) fun t ht => by have := h4 t ht; unfold wTag; omega
 unfold wFeat wShape wL
 rw [sum_w0]
 omega
theorem bS_w {k : Nat} {s : List Feat} (h : bS k s) (hk : k ≤ 4) : wL wFeat s ≤ 10000 := by
 have h1 := h.1
 have := sum_le2 (w := wFeat) (n := 400) (xs := s) fun f hf => bF_w (h.2 f hf) hk
 unfold wL
 omega
theorem dr_l2Id : Drw gf_df9 1 fun s => s.size ≤ 7 ∧ s.size ≠ 2 := fun b p hb h0 hp => by
 unfold gf_df9
 obtain ⟨x, p1, h1, a1, b1, hx⟩ := dr_of (l := _) (List.cons_ne_nil _ _) b p hb h0 hp
 simp only at h1
 rw [h1]
 exact ⟨x, p1, rfl, a1, b1, (by decide : ∀ y ∈ _, y.size ≤ 7 ∧ y.size ≠ 2) x hx⟩
theorem dr_l2Key : Drw gf_dg9 1 fun s => s.size ≤ 7 := fun b p hb h0 hp => by
 unfold gf_dg9
 obtain ⟨x, p1, h1, a1, b1, hx⟩ := dr_of (l := _) (List.cons_ne_nil _ _) b p hb h0 hp
 simp only at h1
 rw [h1]
 exact ⟨x, p1, rfl, a1, b1, (by decide : ∀ y ∈ _, y.size ≤ 7) x hx⟩
theorem dr_l2Val : Drw gf_di9 1 fun s => s.size ≤ 7 := fun b p hb h0 hp => by
 unfold gf_di9
 obtain ⟨x, p1, h1, a1, b1, hx⟩ := dr_of (l := _) (List.cons_ne_nil _ _) b p hb h0 hp
 simp only at h1
 rw [h1]
 exact ⟨x, p1, rfl, a1, b1, (by decide : ∀ y ∈ _, y.size ≤ 7) x hx⟩
abbrev onS : Str := ⟨#[111, 110]⟩
def nt (s : Str) : Prop := s.size ≤ 7 ∧ s ≠ onS
theorem dr_l1Bent : Drw gf_cx9 33 fun s => s.pts.length ≤ 13 := fun b p hb h0 hp => by
 obtain ⟨s, p1, h1, a1, b1, hs1, hs2⟩ := dr_l1Shape b p hb h0 (by omega)
 obtain ⟨k, p2, h2, a2, b2, hk1, hk2⟩ := dr_pick (n := (s.pts.length : Int)) b p1 hb (by omega) (by omega)
 obtain ⟨c, p3, h3, a3, b3, _⟩ := dr_pick (n := 40) b p2 hb (by omega) (by omega)
 have hk2 := hk2 (by omega)
 unfold gf_cx9
 simp only at h2 h3
 simp only [h1, Option.bind_some, h2, h3]
 obtain ⟨y, hy⟩ := getI (xs := s.pts) (i := k.toNat) (by omega)
 have hy' : idx s.pts k = some y := by rw [idx_int hk1]; exact hy
 by_cases c0 : (c == 0) = true
 ·rw [if_pos c0]
  obtain ⟨x, p4, h4, a4, b4, _⟩ := dr_num (l := [0, 4, 1, 2, 3]) (by simp) b p3 hb (by omega) (by omega)
  simp only at h4
  rw [h4]
  exact ⟨_, p4, rfl, by omega, by omega, by simp only; omega⟩
 rw [if_neg c0]
 by_cases c1 : (c == 1) = true
 ·rw [if_pos c1]
  obtain ⟨x, p4, h4, a4, b4, _⟩ := dr_num (l := [1000, 1001, -1001]) (by simp) b p3 hb (by omega) (by omega)
  simp only at h4
  rw [h4, Option.bind_some, hy']
  exact ⟨_, p4, rfl, by omega, by omega, by simp only [List.length_set]; omega⟩
 rw [if_neg c1]
 by_cases c2 : (c == 2) = true
 ·rw [if_pos c2, wrap_pred (by omega) (by omega), idx_nat]
  obtain ⟨z, hz⟩ := getI (xs := s.pts) (i := s.pts.length - 1) (by omega)
  rw [hz, Option.bind_some, if_pos (fits_small (by simp; omega))]
  exact ⟨_, p3, rfl, by omega, by omega, by simp; omega⟩
 rw [if_neg c2]
 by_cases c3 : (c == 3) = true
 ·rw [if_pos c3]
  unfold slc
  rw [if_pos ⟨by omega, hk1, by omega⟩]
  exact ⟨_, p3, rfl, by omega, by omega, by simp; omega⟩
 rw [if_neg c3]
 exact ⟨_, p3, rfl, by omega, by omega, by omega⟩
def bT (n : Nat) (ts : List Tag) : Prop := ts.length ≤ n ∧ ∀ t ∈ ts, t.key.size ≤ 7 ∧ t.val.size ≤ 7
theorem l2Feat_loop (a : Rd) (hb : a.b.length ≤ 2000) : ∀ (m n : Nat) (i p : Int) (ts : List Tag) (q : Nat), m < n → i = m → bT q ts → q + m ≤ 100 → 0 ≤ p → p + 2 * m ≤ 100000 → m ≤ 100 → ∃ ts' p', gl_de9_1 a n i p ts = some (ts', p') ∧ p ≤ p' ∧ p' ≤ p + 2 * m ∧ bT (q + m) ts'
 | _, 0, _, _, _, _, h, _, _, _, _, _, _ => by omega
 | 0, n + 1, i, p, ts, q, h, hi, ht, hq, hp, hk, hm => by
  unfold gl_de9_1
  rw [if_neg (by simp; omega)]
  exact ⟨ts, p, rfl, by omega, by omega, ht⟩
 | m + 1, n + 1, i, p, ts, q, h, hi, ht, hq, hp, hk, hm => by
  unfold gl_de9_1
  rw [if_pos (by simp; omega)]
  obtain ⟨k, p1, h1, a1, b1, c1⟩ := dr_l2Key a.b p hb hp (by omega)
  obtain ⟨v, p2, h2, a2, b2, c2⟩ := dr_l2Val a.b p1 hb (by omega) (by omega)
  obtain ⟨o, h3, h4, h5⟩ := dr_l2Put (s := ts) (a := k) (b := v) (by have := ht.1; omega)
  simp only [h1, Option.bind_some, h2, h3]
  rw [wrap_id (by omega) (by omega)]
  have ht1 : ts.length ≤ q := ht.1
  have ho : o.length ≤ q + 1 := by omega
  obtain ⟨ts', p', g1, g2, g3, g4⟩ := l2Feat_loop a hb m n (i - 1) p2 o (q + 1) (by omega) (by omega) ⟨ho, fun t hh => by
   rcases h5 t hh with h | h
   ·exact ht.2 t h
   ·subst h; exact ⟨c1, c2⟩⟩ (by omega) (by omega) (by omega) (by omega)
  exact ⟨ts', p', g1, by omega, by omega, by rw [show q + (m + 1) = q + 1 + m by omega]; exact g4⟩
theorem dr_l2Feat {id : Str} (hid : id.size ≤ 7 ∧ id.size ≠ 2) : Drw (fun r => gf_de9 r id) 40 fun f => (f.id.size ≤ 7 ∧ f.id.size ≠ 2) ∧ f.shape.pts.length ≤ 12 ∧ bT 4 f.tags := fun b p hb h0 hp => by
 obtain ⟨s, p1, h1, a1, b1, hs1, hs2⟩ := dr_l1Shape b p hb h0 (by omega)
 obtain ⟨k, p2, h2, a2, b2, hk1, hk2⟩ := dr_pick (n := 4) b p1 hb (by omega) (by omega)
 have hk2 := hk2 (by omega)
 simp only [gf_de9]
 simp only at h2
 simp only [h1, Option.bind_some, h2]
 obtain ⟨ts, p3, h3, a3, b3, c3⟩ := l2Feat_loop ⟨b, p⟩ hb k.toNat rounds k p2 [] 0 (by unfold rounds; omega) (by omega) ⟨by simp, by simp⟩ (by omega) (by omega) (by omega) (by omega)
 rw [h3]
 exact ⟨_, p3, rfl, by omega, by omega, hid, hs2, (show ts.length ≤ 4 by have h := c3.1; have h' : ts.length ≤ 0 + k.toNat := h; omega), c3.2⟩
theorem dr_l2Bent : Drw gf_dd9 80 fun f => bF 0 f := fun b p hb h0 hp => by
 obtain ⟨i, p1, h1, a1, b1, hi⟩ := dr_l2Id b p hb h0 (by omega)
 obtain ⟨f, p2, h2, a2, b2, f1, f2, f3, f4⟩ := dr_l2Feat hi b p1 hb (by omega) (by omega)
 obtain ⟨c, p3, h3, a3, b3, _⟩ := dr_pick (n := 40) b p2 hb (by omega) (by omega)
 unfold gf_dd9
 simp only at h2 h3
 simp only [h1, Option.bind_some, h2, h3]
 by_cases c0 : (c == 0) = true
 ·rw [if_pos c0]
  obtain ⟨x, p4, h4, a4, b4, hx⟩ := dr_of (l := [(⟨#[]⟩ : Str), (⟨#[65]⟩ : Str), (⟨#[97, 98, 99, 100, 101, 102, 103]⟩ : Str)]) (by simp) b p3 hb (by omega) (by omega)
  simp only at h4
  rw [h4]
  exact ⟨_, p4, rfl, by omega, by omega, (by decide : ∀ y ∈ [(⟨#[]⟩ : Str), (⟨#[65]⟩ : Str), (⟨#[97, 98, 99, 100, 101, 102, 103]⟩ : Str)], y.size ≤ 7 ∧ y.size ≠ 2) x hx, by simp only; omega, by simp only; omega, f4⟩
 rw [if_neg c0]
 by_cases c1 : (c == 1) = true
 ·rw [if_pos c1]
  obtain ⟨x, p4, h4, a4, b4, hx⟩ := dr_l1Bent b p3 hb (by omega) (by omega)
  rw [h4]
  exact ⟨_, p4, rfl, by omega, by omega, f1, by simp only; omega, by simp only; omega, f4⟩
 rw [if_neg c1]
 by_cases c2 : (c == 2) = true
 ·rw [if_pos c2, if_pos (fits_small (by simp; omega))]
  refine ⟨_, p3, rfl, by omega, by omega, f1, by simp only; omega, by simp; omega, fun t ht => ?_⟩
  rcases List.mem_append.1 ht with h | h
  ·exact f4 t h
  ·simp only [List.mem_singleton] at h; subst h; exact ⟨by decide, by decide⟩
 rw [if_neg c2]
 by_cases c3 : (c == 3) = true
 ·rw [if_pos c3]
  obtain ⟨x, p4, h4, a4, b4, hx⟩ := dr_of (l := [(⟨#[]⟩ : Str), (⟨#[66]⟩ : Str)]) (by simp) b p3 hb (by omega) (by omega)
  simp only at h4
  rw [h4, Option.bind_some, if_pos (fits_small (by simp; omega))]
  refine ⟨_, p4, rfl, by omega, by omega, f1, by simp only; omega, by simp; omega, fun t ht => ?_⟩
  rcases List.mem_append.1 ht with h | h
  ·exact f4 t h
  ·simp only [List.mem_singleton] at h; subst h; exact ⟨(by decide : (⟨#[122, 122]⟩ : Str).size ≤ 7), (by decide : ∀ y ∈ [(⟨#[]⟩ : Str), (⟨#[66]⟩ : Str)], y.size ≤ 7) x hx⟩
 rw [if_neg c3]
 exact ⟨_, p3, rfl, by omega, by omega, f1, by simp only; omega, by simp only; omega, f4⟩
theorem l3Sheet_loop (a : Rd) (hb : a.b.length ≤ 2000) : ∀ (m n : Nat) (i p : Int) (s : List Feat), m < n → i = m → (s.length + m ≤ 20 ∧ ∀ f ∈ s, bF 0 f) → 0 ≤ p → p + 41 * m ≤ 100000 → ∃ s' p', gl_dm9_1 a n i p s = some (s', p') ∧ p ≤ p' ∧ p' ≤ p + 41 * m ∧ s'.length ≤ s.length + m ∧ ∀ f ∈ s', bF 0 f
 | _, 0, _, _, _, h, _, _, _, _ => by omega
 | 0, n + 1, i, p, s, h, hi, hs, hp, hk => by
  unfold gl_dm9_1
  rw [if_neg (by simp; omega)]
  exact ⟨s, p, rfl, by omega, by omega, by omega, hs.2⟩
 | m + 1, n + 1, i, p, s, h, hi, hs, hp, hk => by
  unfold gl_dm9_1
  rw [if_pos (by simp; omega)]
  obtain ⟨k, p1, h1, a1, b1, c1⟩ := dr_l2Id a.b p hb hp (by omega)
  obtain ⟨f, p2, h2, a2, b2, f1, f2, f3, f4⟩ := dr_l2Feat c1 a.b p1 hb (by omega) (by omega)
  have hs1 := hs.1
  obtain ⟨o, h3, h4, h5⟩ := dr_l3Put_xl (s := s) (f := f) (by omega)
  simp only at h2
  simp only [h1, Option.bind_some, h2, h3]
  rw [wrap_id (by omega) (by omega)]
  obtain ⟨s', p', g1, g2, g3, g4, g5⟩ := l3Sheet_loop a hb m n (i - 1) p2 o (by omega) (by omega) ⟨by omega, fun t hh => by
   rcases h5 t hh with h | h
   ·exact hs.2 t h
   ·subst h; exact ⟨f1, by omega, by omega, f4⟩⟩ (by omega) (by omega)
  exact ⟨s', p', g1, by omega, by omega, by omega, g5⟩
theorem dr_l3Sheet : Drw gf_dm9 170 fun s => s.length ≤ 4 ∧ ∀ f ∈ s, bF 0 f := fun b p hb h0 hp => by
 obtain ⟨k, p2, h2, a2, b2, hk1, hk2⟩ := dr_pick (n := 5) b p hb (by omega) (by omega)
 have hk2 := hk2 (by omega)
 unfold gf_dm9
 simp only at h2
 simp only [h2, Option.bind_some]
 obtain ⟨s, p3, h3, a3, b3, c3, d3⟩ := l3Sheet_loop ⟨b, p⟩ hb k.toNat rounds k p2 [] (by unfold rounds; omega) (by omega) ⟨by simp; omega, by simp⟩ (by omega) (by omega)
 rw [h3]
 simp only [List.length_nil] at c3
 exact ⟨s, p3, rfl, by omega, by omega, by omega, d3⟩
theorem l3Bent_loop : ∀ (m n : Nat) (i : Int) (s : List Feat), m < n → 0 ≤ i → i + m = 9 → (s.length + m ≤ 20 ∧ ∀ f ∈ s, bF 0 f) → ∃ s', gl_dj9_1 n i s = some s' ∧ s'.length ≤ s.length + m ∧ ∀ f ∈ s', bF 0 f
 | _, 0, _, _, h, _, _, _ => by omega
 | 0, n + 1, i, s, h, h0, hi, hs => by
  unfold gl_dj9_1
  rw [if_neg (by simp; omega)]
  exact ⟨s, rfl, by omega, hs.2⟩
 | m + 1, n + 1, i, s, h, h0, hi, hs => by
  unfold gl_dj9_1
  rw [if_pos (by simp; omega), wrap_id (by omega) (by omega)]
  have hs1 := hs.1
  have hz : (⟨#[113, 114, 115, 116, 117, 118, 119, 120, 121, 122]⟩ : Str).size = 10 := by decide
  have hx : ∃ x : Str, sslc (⟨#[113, 114, 115, 116, 117, 118, 119, 120, 121, 122]⟩ : Str) i (i + 1) = some x ∧ x.size ≤ 7 ∧ x.size ≠ 2 := by
   unfold sslc
   rw [if_pos ⟨h0, by omega, by rw [hz]; omega⟩]
   refine ⟨_, rfl, ?_⟩
   rw [ByteArray.size_extract, hz]
   omega
  obtain ⟨x, hx1, hx2⟩ := hx
  obtain ⟨o, h3, h4, h5⟩ := dr_l3Put_xl (s := s) (f := ⟨x, ⟨1, [⟨0, 0⟩]⟩, []⟩) (by omega)
  rw [hx1, Option.bind_some, h3, Option.bind_some]
  obtain ⟨s', g1, g2, g3⟩ := l3Bent_loop m n (i + 1) o (by omega) (by omega) (by omega) ⟨by omega, fun t hh => by
   rcases h5 t hh with h | h
   ·exact hs.2 t h
   ·subst h; exact ⟨hx2, by simp, by simp, by simp⟩⟩
  exact ⟨s', g1, by omega, g3⟩
theorem dr_l3Bent : Drw gf_dj9 260 fun s => bS 0 s := fun b p hb h0 hp => by
 obtain ⟨s, p1, h1, a1, b1, hs1, hs2⟩ := dr_l3Sheet b p hb h0 (by omega)
 obtain ⟨c, p2, h2, a2, b2, _⟩ := dr_pick (n := 40) b p1 hb (by omega) (by omega)
 unfold gf_dj9
 simp only at h2
 simp only [h1, Option.bind_some, h2]
 by_cases c0 : (c == 0) = true
 ·rw [if_pos c0]
  obtain ⟨f, p3, h3, a3, b3, hf⟩ := dr_l2Bent b p2 hb (by omega) (by omega)
  rw [h3, Option.bind_some, if_pos (fits_small (by simp; omega))]
  refine ⟨_, p3, rfl, by omega, by omega, by simp; omega, fun t ht => ?_⟩
  rcases List.mem_append.1 ht with h | h
  ·exact hs2 t h
  ·simp only [List.mem_singleton] at h; subst h; exact hf
 rw [if_neg c0]
 by_cases c1 : (c == 1) = true
 ·rw [if_pos c1, if_pos (fits_small (by simp; omega))]
  exact ⟨_, p2, rfl, by omega, by omega, by simp; omega, fun t ht => by rcases List.mem_append.1 ht with h | h <;> exact hs2 t h⟩
 rw [if_neg c1]
 by_cases c2 : (c == 2) = true
 ·rw [if_pos c2]
  obtain ⟨s', g1, g2, g3⟩ := l3Bent_loop 9 rounds 0 s (by decide) (by omega) (by omega) ⟨by omega, hs2⟩
  rw [g1]
  exact ⟨s', p2, rfl, by omega, by omega, by omega, g3⟩
 rw [if_neg c2]
 exact ⟨s, p2, rfl, by omega, by omega, by omega, hs2⟩
theorem fst_range {α : Type} {p : α → Bool} : ∀ {l : List α} {k : Nat}, fstFrom p l k = -1 ∨ (k : Int) ≤ fstFrom p l k ∧ fstFrom p l k < (k + l.length : Nat)
 | [], k => .inl rfl
 | x :: l, k => by
  simp only [fstFrom]
  split
  ·exact .inr ⟨by omega, by simp only [List.length_cons]; omega⟩
  ·rcases fst_range (p := p) (l := l) (k := k + 1) with h | h
   ·exact .inl h
   ·exact .inr ⟨by omega, by simp only [List.length_cons]; omega⟩
theorem mHead_range {hs : List Head} {n : Str} : mHead hs n < 0 ∨ 0 ≤ mHead hs n ∧ mHead hs n < hs.length := by
 rcases fst_range (p := fun y : Head => decide (y.name = n)) (l := hs) (k := 0) with h | h
 ·left
  have e : mHead hs n = -1 := h
  omega
 ·right
  have e : mHead hs n = fstFrom (fun y : Head => decide (y.name = n)) hs 0 := rfl
  rw [← e] at h
  simpa using h
theorem dr_open (code : List UInt8) : ∃ b, gf_ct9 code = some ⟨b, 0⟩ ∧ b.length ≤ 2000 := by
 unfold gf_ct9
 split
 ·rename_i h
  have h' : (code.length : Int) > 2000 := by simpa using h
  unfold slc
  rw [if_pos ⟨by omega, by omega, by omega⟩]
  exact ⟨_, rfl, by simp; omega⟩
 ·rename_i h
  have h' : ¬ (code.length : Int) > 2000 := by simpa using h
  exact ⟨code, rfl, by omega⟩
theorem allFrom_app {α : Type} {p : α → Nat → Bool} : ∀ {a b : List α} {k : Nat}, allFrom p (a ++ b) k = (allFrom p a k && allFrom p b (k + a.length))
 | [], b, k => by simp [allFrom]
 | x :: a, b, k => by
  simp only [List.cons_append, allFrom, allFrom_app (a := a), List.length_cons, Bool.and_assoc]
  rw [show k + 1 + a.length = k + (a.length + 1) by omega]
theorem allFrom_imp {α : Type} {p q : α → Nat → Bool} {l : List α} {k : Nat} (h : ∀ j x, l[j]? = some x → p x (k + j) = true → q x (k + j) = true) (hp : allFrom p l k = true) : allFrom q l k = true :=
 allFrom_mk fun j x hx => h j x hx (allFrom_get hp j x hx)
theorem fst_app {α : Type} {p : α → Bool} : ∀ {a b : List α} {k : Nat}, fstFrom p (a ++ b) k = if fstFrom p a k < 0 then fstFrom p b (k + a.length) else fstFrom p a k
 | [], b, k => by simp [fstFrom]
 | x :: a, b, k => by
  simp only [List.cons_append, fstFrom]
  split
  ·rw [if_neg (by omega)]
  ·rw [fst_app (a := a), List.length_cons, show k + 1 + a.length = k + (a.length + 1) by omega]
theorem fst_map {α β : Type} {f : α → β} {p : β → Bool} : ∀ {l : List α} {k : Nat}, fstFrom (fun x => p (f x)) l k = fstFrom p (l.map f) k
 | [], k => rfl
 | x :: l, k => by
  simp only [List.map_cons, fstFrom]
  split
  ·rfl
  ·exact fst_map
theorem mHead_map {hs : List Head} {n : Str} : mHead hs n = fstFrom (fun x => decide (x = n)) (hs.map Head.name) 0 := fst_map (f := Head.name) (p := fun x => decide (x = n))
theorem mHead_names {a b : List Head} {n : Str} (h : a.map Head.name = b.map Head.name) : mHead a n = mHead b n := by rw [mHead_map, mHead_map, h]
theorem set_names {hs : List Head} {i : Nat} {h : Head} {v : Int} (hi : hs[i]? = some h) : (hs.set i ⟨h.name, v⟩).map Head.name = hs.map Head.name := by
 rw [List.map_set]
 apply List.ext_getElem?
 intro j
 rw [List.getElem?_set]
 split
 ·rename_i e
  subst e
  have := (List.getElem?_eq_some_iff.1 hi).1
  have e := (List.getElem?_eq_some_iff.1 hi).2
  simp [this, e]
 ·rfl
theorem repo_parts {r : Repo} : mRepo r = true ↔ (1 ≤ r.commits.length ∧ r.commits.length ≤ 14) ∧ (1 ≤ r.heads.length ∧ r.heads.length ≤ 4) ∧ mCommits r.commits = true ∧ mHeads r.commits.length r.heads = true := by
 unfold mRepo
 simp only [Bool.and_eq_true, decide_eq_true_eq]
 constructor
 ·rintro ⟨a, b, c, d, e, f⟩; exact ⟨⟨a, b⟩, ⟨c, d⟩, e, f⟩
 ·rintro ⟨⟨a, b⟩, ⟨c, d⟩, e, f⟩; exact ⟨a, b, c, d, e, f⟩
theorem hd_parts {r : Repo} (h : mRepo r = true) {i : Nat} {z : Head} (hz : r.heads[i]? = some z) : mWord z.name = true ∧ mHead r.heads z.name = (i : Int) ∧ 0 ≤ z.at_ ∧ z.at_ < (r.commits.length : Int) := by
 have := allFrom_get (repo_parts.1 h).2.2.2 i z hz
 simp only [Nat.zero_add, Bool.and_eq_true, decide_eq_true_eq] at this
 exact ⟨this.1, this.2.1, this.2.2.1, this.2.2.2⟩
theorem mRepo_set {r : Repo} {i : Nat} {z : Head} {v : Int} (h : mRepo r = true) (hz : r.heads[i]? = some z) (h0 : 0 ≤ v) (h1 : v < (r.commits.length : Int)) : mRepo ⟨r.commits, r.heads.set i ⟨z.name, v⟩⟩ = true := by
 obtain ⟨a, b, c, d⟩ := repo_parts.1 h
 refine repo_parts.2 ⟨a, by simpa using b, c, ?_⟩
 refine allFrom_mk fun j x hx => ?_
 have hn : ∀ n, mHead (r.heads.set i ⟨z.name, v⟩) n = mHead r.heads n := fun n => mHead_names (set_names hz)
 simp only [Nat.zero_add, Bool.and_eq_true, decide_eq_true_eq, hn]
 by_cases hj : i = j
 ·subst hj
  rw [List.getElem?_set_self (get_lt hz)] at hx
  cases hx
  obtain ⟨q1, q2, q3, q4⟩ := hd_parts h hz
  exact ⟨q1, q2, h0, h1⟩
 ·rw [List.getElem?_set_ne hj] at hx
  obtain ⟨q1, q2, q3, q4⟩ := hd_parts h hx
  exact ⟨q1, q2, q3, q4⟩
theorem mRepo_commit {r : Repo} {u : Int} {s : List Feat} {t : Str} (h : mRepo r = true) (hl : r.commits.length < 14) (h0 : 0 ≤ u) (h1 : u < (r.commits.length : Int)) (hs : mSheet s = true) (ht : mWord t = true) (hno : mFind r.commits ⟨[u], s, t⟩ < 0) :
  mRepo ⟨r.commits ++ [⟨[u], s, t⟩], r.heads⟩ = true ∧ mFind (r.commits ++ [⟨[u], s, t⟩]) ⟨[u], s, t⟩ = (r.commits.length : Int) := by
 obtain ⟨a, b, c, d⟩ := repo_parts.1 h
 have e : mFind r.commits ⟨[u], s, t⟩ = fstFrom (fun y : Commit => decide (y = ⟨[u], s, t⟩)) r.commits 0 := rfl
 have hf : mFind (r.commits ++ [⟨[u], s, t⟩]) ⟨[u], s, t⟩ = (r.commits.length : Int) := by
  unfold mFind
  rw [fst_app, ← e, if_pos hno]
  simp [fstFrom]
 refine ⟨repo_parts.2 ⟨⟨by simp, by simp; omega⟩, b, ?_, ?_⟩, hf⟩
 ·unfold mCommits
  rw [allFrom_app, Bool.and_eq_true]
  constructor
  ·refine allFrom_imp (fun j x hx hp => ?_) c
   simp only [Nat.zero_add, Bool.and_eq_true, decide_eq_true_eq] at hp ⊢
   refine ⟨hp.1, hp.2.1, hp.2.2.1, ?_⟩
   have e2 : mFind r.commits x = fstFrom (fun y : Commit => decide (y = x)) r.commits 0 := rfl
   unfold mFind
   rw [fst_app, ← e2, if_neg (by omega)]
   exact hp.2.2.2
  ·simp only [allFrom, Nat.zero_add, Bool.and_true, Bool.and_eq_true, decide_eq_true_eq]
   refine ⟨?_, hs, ht, hf⟩
   simp only [mUp, allFrom, Bool.and_true, Bool.and_eq_true, decide_eq_true_eq, beq_iff_eq]
   exact ⟨⟨h0, h1⟩, by simp, by simp; omega, by simp⟩
 ·refine allFrom_imp (fun j x hx hp => ?_) d
  simp only [Nat.zero_add, Bool.and_eq_true, decide_eq_true_eq, List.length_append, List.length_singleton] at hp ⊢
  exact ⟨hp.1, hp.2.1, hp.2.2.1, by omega⟩
theorem mAdd_fine {r : Repo} {n t : Str} {s : List Feat} (h : (mAdd r n s t).2 = 0) : mRepo r = true ∧ mSheet s = true ∧ mWord t = true ∧ ∃ (i : Nat) (z : Head) (x : Commit), mHead r.heads n = (i : Int) ∧ r.heads[i]? = some z ∧ idx r.commits z.at_ = some x ∧ x.sheet ≠ s ∧
  ((mFind r.commits ⟨[z.at_], s, t⟩ < 0 ∧ r.commits.length < 14 ∧ mAdd r n s t = (⟨r.commits ++ [⟨[z.at_], s, t⟩], r.heads.set i ⟨z.name, r.commits.length⟩⟩, 0)) ∨
   (0 ≤ mFind r.commits ⟨[z.at_], s, t⟩ ∧ mAdd r n s t = (⟨r.commits, r.heads.set i ⟨z.name, mFind r.commits ⟨[z.at_], s, t⟩⟩⟩, 0))) := by
 unfold mAdd at h ⊢
 by_cases h0 : (mRepo r && (mSheet s && mWord t)) = true
 ·rw [if_pos h0] at h ⊢
  simp only [Bool.and_eq_true] at h0
  refine ⟨h0.1, h0.2.1, h0.2.2, ?_⟩
  have hl := repo_len h0.1
  rcases mHead_range (hs := r.heads) (n := n) with hm | ⟨hm1, hm2⟩
  ·have : idx r.heads (mHead r.heads n) = none := by unfold idx; rw [if_neg (by omega)]
   rw [this] at h
   exact absurd (show (1 : Int) = 0 from h) (by decide)
  ·obtain ⟨i, hi⟩ : ∃ i : Nat, mHead r.heads n = (i : Int) := ⟨(mHead r.heads n).toNat, by omega⟩
   obtain ⟨z, hz⟩ := getI (xs := r.heads) (i := i) (by omega)
   have hz' : idx r.heads (mHead r.heads n) = some z := by rw [hi, idx_nat]; exact hz
   rw [hz'] at h ⊢
   simp only at h ⊢
   cases hx : idx r.commits z.at_ with
   | none => rw [hx] at h; exact absurd (show (1 : Int) = 0 from h) (by decide)
   | some x =>
    rw [hx] at h
    simp only at h
    by_cases hs : x.sheet = s
    ·rw [if_pos hs] at h; exact absurd (show (3 : Int) = 0 from h) (by decide)
    rw [if_neg hs] at h
    refine ⟨i, z, x, hi, hz, hx, hs, ?_⟩
    simp only [if_neg hs]
    by_cases hf : mFind r.commits ⟨[z.at_], s, t⟩ < 0
    ·rw [if_pos hf] at h
     by_cases h14 : r.commits.length = 14
     ·rw [if_pos h14] at h; exact absurd (show (2 : Int) = 0 from h) (by decide)
     left
     refine ⟨hf, by omega, ?_⟩
     rw [if_pos hf, if_neg h14, hi]
     rfl
    ·right
     refine ⟨by omega, ?_⟩
     rw [if_neg hf, hi]
     rfl
 ·rw [if_neg h0] at h
  exact absurd (show (4 : Int) = 0 from h) (by decide)
theorem headb (x y : Head) : ((x.name == y.name) && ((x.at_ == y.at_) && true)) = decide (x = y) := by
 obtain ⟨a, b⟩ := x; obtain ⟨c, d⟩ := y
 simp only [strB]
 by_cases h1 : a = c <;> by_cases h2 : b = d <;> simp [h1, h2]
theorem i_EqHead {a b : List Head} (h : a.length ≤ 1048576) : gf_bw9 a b = some (decide (a = b)) := eqd_list (gl := gl_bw9_1) (ok := fun _ => True) (fun _ _ => rfl) (fun a x l k y _ hy => by
 simp only [gl_bw9_1, idx_nat, hy, Option.bind_some, headb]
 by_cases e : x = y <;> simp [e]) (fun _ _ => rfl) h (fun _ _ => trivial)
theorem i_EqCommit {a b : List Commit} (h : wL wCommit a ≤ 1048576) : gf_bt9 a b = some (decide (a = b)) := eqd_list (gl := gl_bt9_1) (ok := fun x => wCommit x ≤ 1048576) (fun _ _ => rfl) (fun a x l k y hx hy => by
 simp only [gl_bt9_1, idx_nat, hy, Option.bind_some, i_sameCommit hx]
 by_cases e : x = y <;> simp [e]) (fun _ _ => rfl) (by unfold wL at h; omega) (fun x hx => by have := sum_mem (w := wCommit) hx; unfold wL at h; omega)
theorem i_RepoSame {a b : Repo} (h : wRepo a ≤ 1048576) : gf_al9 a b = some (decide (a = b)) := by
 unfold wRepo at h
 unfold gf_al9
 rw [i_EqCommit (by omega), i_EqHead (by unfold wL at h; omega)]
 obtain ⟨i, s⟩ := a; obtain ⟨i2, s2⟩ := b
 by_cases h1 : i = i2 <;> by_cases h2 : s = s2 <;> simp [h1, h2]
theorem i_RepoAt' {r : Repo} {n : Str} (hw : wRepo r ≤ 1048576) : gf_af9 r n = some (mRepoAt r n) := by
 have hh : r.heads.length ≤ 1048576 := by unfold wRepo wL at hw; omega
 unfold gf_af9
 rw [i_Repo_head hh, i_RepoOk hw]
 simp only [Option.bind_some]
 rcases repoAt_cases r n with ⟨h1, h2⟩ | ⟨k, a, h, hr, h1, h2, h3, h4, h5, h6⟩
 ·rw [h1]
  by_cases hr : mRepo r = true
  ·rw [hr, h2 hr]
   rfl
  ·simp only [Bool.not_eq_true] at hr
   rw [hr]
   rfl
 ·rw [h6, hr, h1]
  simp only [Bool.not_true]
  rw [if_neg (by decide), if_neg (by simp), idx_nat, h2]
  simp [h4]
theorem trueAt_lt {m : List Bool} {k : Nat} (h : trueAt m k = true) : k < m.length := by
 unfold trueAt at h
 rcases Nat.lt_or_ge k m.length with h1 | h1
 ·exact h1
 ·rw [List.getElem?_eq_none h1] at h
  cases h
theorem cnt_mono {m : List Bool} {a : Nat} : ∀ {b : Nat}, a ≤ b → cnt m a ≤ cnt m b
 | 0, h => by
  have : a = 0 := by omega
  subst this; exact Nat.le_refl _
 | b + 1, h => by
  rcases Nat.eq_or_lt_of_le h with rfl | h
  ·exact Nat.le_refl _
  ·have := cnt_mono (m := m) (a := a) (b := b) (by omega)
   simp only [cnt]
   omega
theorem cnt_lt {m : List Bool} {a b : Nat} (h : a < b) (ha : trueAt m a = true) : cnt m a < cnt m b := by
 have h1 := cnt_mono (m := m) (a := a + 1) (b := b) h
 simp only [cnt, ha, if_true] at h1
 omega
theorem cnt_inj {m : List Bool} {a b : Nat} (ha : trueAt m a = true) (hb : trueAt m b = true) (h : cnt m a = cnt m b) : a = b := by
 rcases Nat.lt_trichotomy a b with h1 | h1 | h1
 ·have := cnt_lt h1 ha; omega
 ·exact h1
 ·have := cnt_lt h1 hb; omega
theorem sweepC_len {m : List Bool} : ∀ {l : List Commit} {k : Nat}, (sweepC m l k).length + cnt m k = cnt m (k + l.length)
 | [], k => by simp [sweepC]
 | x :: l, k => by
  have ih := sweepC_len (m := m) (l := l) (k := k + 1)
  simp only [cnt] at ih
  rw [List.length_cons, show k + (l.length + 1) = k + 1 + l.length by omega]
  simp only [sweepC]
  split
  ·rename_i h
   rw [if_pos h] at ih
   simp only [List.length_cons]
   omega
  ·rename_i h
   rw [if_neg h] at ih
   omega
theorem sweepC_get {m : List Bool} : ∀ {l : List Commit} {k j : Nat} {x : Commit}, l[j]? = some x → trueAt m (k + j) = true → (sweepC m l k)[cnt m (k + j) - cnt m k]? = some (newUp m x)
 | [], k, j, x, h, _ => by simp at h
 | y :: l, k, 0, x, h, ht => by
  simp only [List.getElem?_cons_zero, Option.some.injEq] at h
  subst h
  simp only [Nat.add_zero] at ht
  simp [sweepC, ht]
 | y :: l, k, j + 1, x, h, ht => by
  rw [show k + (j + 1) = k + 1 + j by omega] at ht ⊢
  have ih := sweepC_get (m := m) (l := l) (k := k + 1) (j := j) (by simpa using h) ht
  have hm := cnt_mono (m := m) (a := k + 1) (b := k + 1 + j) (by omega)
  simp only [cnt] at ih hm
  simp only [sweepC]
  split
  ·rename_i hk
   rw [if_pos hk] at ih hm
   rw [show cnt m (k + 1 + j) - cnt m k = cnt m (k + 1 + j) - (cnt m k + 1) + 1 by omega, List.getElem?_cons_succ]
   exact ih
  ·rename_i hk
   rw [if_neg hk] at ih
   exact ih
theorem cnt_hit {m : List Bool} : ∀ {n j : Nat}, j < cnt m n → ∃ k, k < n ∧ trueAt m k = true ∧ cnt m k = j
 | 0, j, h => by simp [cnt] at h
 | n + 1, j, h => by
  by_cases hn : j < cnt m n
  ·obtain ⟨k, h1, h2, h3⟩ := cnt_hit hn
   exact ⟨k, by omega, h2, h3⟩
  ·simp only [cnt] at h
   split at h
   ·rename_i ht
    exact ⟨n, by omega, ht, by omega⟩
   ·omega
structure Kept (cs : List Commit) (m : List Bool) : Prop where
 hist : Hist cs
 len : m.length = cs.length
 up : ∀ k x u, cs[k]? = some x → trueAt m k = true → u ∈ x.up → trueAt m u.toNat = true
section
variable {cs : List Commit} {m : List Bool}
theorem Kept.get (h : Kept cs m) {k : Nat} (hk : trueAt m k = true) : ∃ x, cs[k]? = some x ∧ (sweepC m cs 0)[cnt m k]? = some (newUp m x) := by
 obtain ⟨x, hx⟩ := getI (xs := cs) (i := k) (by rw [← h.len]; exact trueAt_lt hk)
 have := sweepC_get (m := m) (l := cs) (k := 0) (j := k) hx (by simpa using hk)
 simp only [Nat.zero_add, cnt, Nat.sub_zero] at this
 exact ⟨x, hx, this⟩
theorem Kept.tot (h : Kept cs m) : (sweepC m cs 0).length = cnt m cs.length := by
 have := sweepC_len (m := m) (l := cs) (k := 0)
 simp only [Nat.zero_add, cnt] at this
 exact this
theorem Kept.from (h : Kept cs m) {j : Nat} {y : Commit} (hy : (sweepC m cs 0)[j]? = some y) : ∃ k x, trueAt m k = true ∧ cnt m k = j ∧ cs[k]? = some x ∧ y = newUp m x := by
 have := get_lt hy
 rw [h.tot] at this
 obtain ⟨k, h1, h2, h3⟩ := cnt_hit this
 obtain ⟨x, h4, h5⟩ := h.get h2
 rw [h3, hy] at h5
 exact ⟨k, x, h2, h3, h4, Option.some.inj h5⟩
theorem Kept.anc (h : Kept cs m) {a b : Nat} (ha : trueAt m a = true) (hab : Anc cs a b) : trueAt m b = true ∧ Anc (sweepC m cs 0) (cnt m a) (cnt m b) := by
 induction hab with
 | refl => exact ⟨ha, .refl _⟩
 | up _ hx hu ih =>
  rename_i c x u _
  obtain ⟨x', h1, h2⟩ := h.get ih.1
  rw [hx] at h1
  cases h1
  refine ⟨h.up _ _ _ hx ih.1 hu, ?_⟩
  exact Anc.up (u := (cnt m u.toNat : Int)) ih.2 h2 (List.mem_map.2 ⟨u, hu, rfl⟩)
theorem Kept.anc' (h : Kept cs m) {a y : Nat} (ha : trueAt m a = true) (hay : Anc (sweepC m cs 0) (cnt m a) y) : ∃ b, trueAt m b = true ∧ y = cnt m b ∧ Anc cs a b := by
 generalize e : cnt m a = a' at hay
 induction hay with
 | refl => exact ⟨a, ha, e.symm, .refl a⟩
 | up _ hx hu ih =>
  rename_i c' x' u' _
  obtain ⟨c, h1, rfl, h3⟩ := ih
  obtain ⟨x, h4, h5⟩ := h.get h1
  rw [hx] at h5
  cases h5
  obtain ⟨u, hu1, rfl⟩ := List.mem_map.1 hu
  exact ⟨u.toNat, h.up _ _ _ h4 h1 hu1, by simp, h3.up h4 hu1⟩
theorem Kept.iff (h : Kept cs m) {a b : Nat} (ha : trueAt m a = true) (hb : trueAt m b = true) : Anc (sweepC m cs 0) (cnt m a) (cnt m b) ↔ Anc cs a b := by
 constructor
 ·intro h1
  obtain ⟨c, h2, h3, h4⟩ := h.anc' ha h1
  rw [cnt_inj hb h2 h3]
  exact h4
 ·exact fun h1 => (h.anc ha h1).2
theorem down_sweep {p p' : Nat → Bool} (hp : ∀ k, p k = true → trueAt m k = true) (hp' : ∀ k, trueAt m k = true → p' (cnt m k) = p k) : ∀ n, downF p' (cnt m n) = (downF p n).map fun u => (cnt m u.toNat : Int)
 | 0 => rfl
 | n + 1 => by
  simp only [cnt, downF]
  by_cases hn : trueAt m n = true
  ·rw [if_pos hn]
   simp only [downF, hp' n hn]
   rw [down_sweep hp hp' n]
   split
   ·simp
   ·rfl
  ·rw [if_neg hn, if_neg (fun h => hn (hp n h)), Nat.add_zero]
   exact down_sweep hp hp' n
theorem trueAt_mark {F : List Nat} {k : Nat} : trueAt (mark cs F) k = true ↔ k < cs.length ∧ ∃ f ∈ F, Anc cs f k := by
 constructor
 ·intro h
  have hl := trueAt_lt h
  rw [mark_len] at hl
  obtain ⟨b, h1, h2⟩ := mark_get (F := F) hl
  unfold trueAt at h
  rw [h1] at h
  refine ⟨hl, h2.1 (by simpa using h)⟩
 ·rintro ⟨hl, h⟩
  obtain ⟨b, h1, h2⟩ := mark_get (F := F) hl
  unfold trueAt
  rw [h1, h2.2 h]
  rfl
theorem Kept.past (h : Kept cs m) {a : Nat} (ha : trueAt m a = true) : mPast (sweepC m cs 0) (cnt m a) = (mPast cs a).map fun u => (cnt m u.toNat : Int) := by
 have hl : a < cs.length := by rw [← h.len]; exact trueAt_lt ha
 unfold mPast
 rw [h.tot]
 refine down_sweep (fun k hk => ?_) (fun k hk => ?_) _
 ·obtain ⟨h1, f, hf, h2⟩ := trueAt_mark.1 hk
  simp only [List.mem_singleton] at hf
  subst hf
  exact (h.anc ha h2).1
 ·rw [Bool.eq_iff_iff, trueAt_mark, trueAt_mark]
  simp only [List.mem_singleton, exists_eq_left]
  rw [h.iff ha hk, h.tot]
  have h1 : k < cs.length := by rw [← h.len]; exact trueAt_lt hk
  have h2 := cnt_lt (m := m) h1 hk
  constructor
  ·exact fun h3 => ⟨h1, h3.2⟩
  ·exact fun h3 => ⟨h2, h3.2⟩
end
theorem repoAt_mk {r : Repo} {n : Str} {i : Nat} {z : Head} (hr : mRepo r = true) (hi : mHead r.heads n = (i : Int)) (hz : r.heads[i]? = some z) : mRepoAt r n = z.at_ := by
 unfold mRepoAt
 rw [if_pos hr, hi, idx_nat, hz]
structure Added (r : Repo) (n t : Str) (s : List Feat) (i : Nat) (z : Head) (x : Commit) (q : Repo) (k : Nat) : Prop where
 repo : mRepo r = true
 sheet : mSheet s = true
 word : mWord t = true
 hd : mHead r.heads n = (i : Int)
 at_ : r.heads[i]? = some z
 name : z.name = n
 was : r.commits[z.at_.toNat]? = some x
 ge : 0 ≤ z.at_
 ne : x.sheet ≠ s
 eq : mAdd r n s t = (q, 0)
 heads : q.heads = r.heads.set i ⟨z.name, (k : Int)⟩
 comm : (q.commits = r.commits ∧ k < r.commits.length) ∨ (q.commits = r.commits ++ [⟨[z.at_], s, t⟩] ∧ k = r.commits.length ∧ r.commits.length < 14)
 get : q.commits[k]? = some ⟨[z.at_], s, t⟩
 repo' : mRepo q = true
section
variable {r q : Repo} {n t : Str} {s : List Feat} {i k : Nat} {z : Head} {x : Commit}
theorem Added.w (h : Added r n t s i z x q k) (hw : wRepo r ≤ 1000000) (hs : wL wFeat s ≤ 20000) (ht : t.size ≤ 7) : wRepo q ≤ wRepo r + 20010 := by
 have h1 := mAdd_w (r := r) (n := n) (t := t) (s := s)
 rw [h.eq] at h1
 simp only at h1
 omega
end
section
variable {r q : Repo} {n t : Str} {s : List Feat} {i k : Nat} {z : Head} {x : Commit}
end
theorem repo_commits {r : Repo} (h : mRepo r = true) : mCommits r.commits = true := by
 unfold mRepo at h
 simp only [Bool.and_eq_true] at h
 exact h.2.2.2.2.1
def beginS : Str := ⟨#[98, 101, 103, 105, 110]⟩
def mNew (n : Str) : Repo × Bool := if mWord n = true then (⟨[⟨[], [], beginS⟩], [⟨n, 0⟩]⟩, true) else (⟨[], []⟩, false)
theorem i_RepoNew {n : Str} (h : n.size ≤ 1048576) : gf_ai9 n = some (mNew n) := by
 unfold gf_ai9 mNew
 rw [i_WordOk h, Option.bind_some]
 by_cases hn : mWord n = true
 ·rw [hn]; rfl
 ·simp only [Bool.not_eq_true] at hn
  rw [hn]; rfl
theorem s_RepoNew {n : Str} (h : n.size ≤ 1048576) : gf_cq9 n = some (mNew n) := by
 unfold gf_cq9 mNew
 rw [s_WordOk h, Option.bind_some]
 by_cases hn : mWord n = true
 ·rw [hn]; rfl
 ·simp only [Bool.not_eq_true] at hn
  rw [hn]; rfl
theorem mRepo_new {n : Str} (h : mWord n = true) : mRepo ⟨[⟨[], [], beginS⟩], [⟨n, 0⟩]⟩ = true := by
 refine repo_parts.2 ⟨⟨by simp, by simp⟩, ⟨by simp, by simp⟩, (by decide : mCommits [⟨[], [], beginS⟩] = true), ?_⟩
 unfold mHeads
 simp [allFrom, h, mHead, fstFrom]
theorem slt_asymm {a b : Str} (h : slt a b = true) : slt b a = false := by
 have := slt_seq a b
 rw [h] at this
 simpa using this.symm
theorem slt_tri {a b : Str} (h1 : slt a b = false) (h2 : a ≠ b) : slt b a = true := by
 have := slt_seq a b
 rw [h1, seq_dec] at this
 simpa [h2] using this.symm
def Srt (s : List Feat) : Prop := ∀ k x y, s[k]? = some x → s[k + 1]? = some y → slt x.id y.id = true
theorem mSheet_iff {s : List Feat} : mSheet s = true ↔ (∀ f ∈ s, mFeat f = true) ∧ Srt s ∧ s.length ≤ 8 := by
 unfold mSheet
 rw [Bool.and_eq_true, decide_eq_true_eq]
 constructor
 ·rintro ⟨h, hl⟩
  refine ⟨fun f hf => ?_, fun k x y hx hy => ?_, hl⟩
  ·obtain ⟨k, hk⟩ := List.mem_iff_getElem?.1 hf
   have := allFrom_get h k f hk
   simp only [Bool.and_eq_true] at this
   exact this.1
  ·have := allFrom_get h (k + 1) y hy
   simp only [Nat.zero_add, Bool.and_eq_true, Bool.or_eq_true, decide_eq_true_eq, mPrev, Nat.add_sub_cancel, hx] at this
   rcases this.2 with h | h
   ·omega
   ·exact h
 ·rintro ⟨h1, h2, hl⟩
  refine ⟨allFrom_mk fun j x hx => ?_, hl⟩
  simp only [Nat.zero_add, Bool.and_eq_true, Bool.or_eq_true, decide_eq_true_eq]
  refine ⟨h1 x (List.mem_of_getElem? hx), ?_⟩
  cases j with
  | zero => exact .inl rfl
  | succ j =>
   right
   obtain ⟨y, hy⟩ := getI (xs := s) (i := j) (by have := get_lt hx; omega)
   simp only [mPrev, Nat.add_sub_cancel, hy]
   exact h2 j y x hy hx
def ins (s : List Feat) (f : Feat) (v : Nat) : List Feat := s.take v ++ f :: s.drop v
theorem ins_get {s : List Feat} {f : Feat} {v k : Nat} (hv : v ≤ s.length) : (ins s f v)[k]? = if k < v then s[k]? else if k = v then some f else s[k - 1]? := by
 have hl : (s.take v).length = v := by rw [List.length_take]; omega
 unfold ins
 by_cases h1 : k < v
 ·rw [if_pos h1, List.getElem?_append_left (by omega), List.getElem?_take, if_pos h1]
 ·rw [if_neg h1, List.getElem?_append_right (by omega), hl]
  by_cases h2 : k = v
  ·rw [if_pos h2, h2, Nat.sub_self]; rfl
  ·rw [if_neg h2, show k - v = (k - 1 - v) + 1 by omega, List.getElem?_cons_succ, List.getElem?_drop]
   congr 1
   omega
theorem ins_len {s : List Feat} {f : Feat} {v : Nat} (hv : v ≤ s.length) : (ins s f v).length = s.length + 1 := by
 unfold ins
 simp only [List.length_append, List.length_take, List.length_cons, List.length_drop]
 omega
theorem ins_srt {s : List Feat} {f : Feat} {v : Nat} (hs : Srt s) (hv : v ≤ s.length) (h1 : v = 0 ∨ ∃ y, s[v - 1]? = some y ∧ slt y.id f.id = true) (h2 : v = s.length ∨ ∃ y, s[v]? = some y ∧ slt f.id y.id = true) : Srt (ins s f v) := by
 intro k x y hx hy
 rw [ins_get hv] at hx hy
 rcases Nat.lt_trichotomy k v with h | h | h
 ·rw [if_pos h] at hx
  by_cases h3 : k + 1 < v
  ·rw [if_pos h3] at hy
   exact hs k x y hx hy
  ·have e : k + 1 = v := by omega
   rw [if_neg h3, if_pos e] at hy
   cases hy
   rcases h1 with h1 | ⟨z, hz, h1⟩
   ·omega
   ·rw [show v - 1 = k by omega, hx] at hz
    cases hz
    exact h1
 ·rw [if_neg (by omega), if_pos h] at hx
  cases hx
  rw [if_neg (by omega), if_neg (by omega), Nat.add_sub_cancel, h] at hy
  rcases h2 with h2 | ⟨z, hz, h2⟩
  ·have := get_lt hy; omega
  ·rw [hy] at hz
   cases hz
   exact h2
 ·rw [if_neg (by omega), if_neg (by omega)] at hx hy
  refine hs (k - 1) x y hx ?_
  rw [show k - 1 + 1 = k + 1 - 1 by omega]
  exact hy
theorem i_cmp (x y : Feat) : ∃ c, gf_ax9 x y = some c ∧ (c < 0 ↔ slt x.id y.id = true) := by
 unfold gf_ax9 gf_aa9 gf_ab9
 simp only [seq_dec, decide_true, Bool.not_true, Option.bind_some]
 by_cases h : slt x.id y.id = true
 ·exact ⟨-1, by simp [h], by simp [h]⟩
 ·simp only [Bool.not_eq_true] at h
  by_cases h2 : x.id = y.id
  ·have h3 := h
   rw [h2] at h3
   exact ⟨0, by simp [h2, h3], by simp [h]⟩
  ·exact ⟨1, by simp [h, h2], by simp [h]⟩
theorem ins_swap {s : List Feat} {f y : Feat} {v : Nat} (hv : v < s.length) (hy : s[v]? = some y) : ((ins s f (v + 1)).set (v + 1) y).set v f = ins s f v := by
 refine List.ext_getElem? fun k => ?_
 have hl := ins_len (s := s) (f := f) (v := v + 1) (by omega)
 rw [ins_get (by omega), List.getElem?_set, List.getElem?_set, ins_get (by omega), List.length_set, hl]
 by_cases h1 : k = v
 ·subst h1
  rw [if_pos rfl, if_pos (by omega), if_neg (by omega), if_pos rfl]
 ·rw [if_neg (Ne.symm h1)]
  by_cases h2 : k = v + 1
  ·subst h2
   rw [if_pos rfl, if_pos (by omega), if_neg (by omega), if_neg (by omega), Nat.add_sub_cancel, hy]
  ·rw [if_neg (Ne.symm h2)]
   by_cases h3 : k < v
   ·rw [if_pos (by omega), if_pos h3]
   ·rw [if_neg (by omega), if_neg h2, if_neg h3, if_neg h1]
theorem ins5 {s : List Feat} {f : Feat} (hl : s.length ≤ 1048576) : ∀ (v n : Nat), v < n → v ≤ s.length → ∃ w, gl_cm9_5 0 n (v : Int) (ins s f v) = some (ins s f w) ∧ w ≤ v ∧ (w = 0 ∨ ∃ y, s[w - 1]? = some y ∧ slt f.id y.id = false) ∧ (w = v ∨ ∃ y, s[w]? = some y ∧ slt f.id y.id = true)
 | _, 0, h, _ => by omega
 | 0, n + 1, h, hv => by
  refine ⟨0, ?_, Nat.le_refl _, .inl rfl, .inl rfl⟩
  unfold gl_cm9_5
  rw [if_neg (by simp)]
 | v + 1, n + 1, h, hv => by
  obtain ⟨y, hy⟩ := getI (xs := s) (i := v) (by omega)
  obtain ⟨c, hc, hc2⟩ := i_cmp f y
  have hw : IntKind.i64.wrap (((v + 1 : Nat) : Int) - 1) = (v : Int) := by rw [wrap_id (by omega) (by omega)]; omega
  have g1 : (ins s f (v + 1))[v + 1]? = some f := by rw [ins_get hv, if_neg (by omega), if_pos rfl]
  have g2 : (ins s f (v + 1))[v]? = some y := by rw [ins_get hv, if_pos (by omega)]; exact hy
  have g3 : ((ins s f (v + 1)).set (v + 1) y)[v]? = some y := by rw [List.getElem?_set_ne (by omega)]; exact g2
  unfold gl_cm9_5
  rw [if_pos (decide_eq_true (by omega)), idx_nat, g1, Option.bind_some, hw, idx_nat, g2, Option.bind_some, hc, Option.bind_some]
  by_cases hs : slt f.id y.id = true
  ·rw [if_pos (by simpa using hc2.2 hs), Int.toNat_natCast, Int.toNat_natCast, idx_nat, g3, Option.bind_some, ins_swap (by omega) hy]
   obtain ⟨w, h1, h2, h3, h4⟩ := ins5 hl v n (by omega) (by omega)
   refine ⟨w, h1, by omega, h3, ?_⟩
   rcases h4 with h4 | h4
   ·subst h4
    exact .inr ⟨y, hy, hs⟩
   ·exact .inr h4
  ·have hn : ¬ c < 0 := fun h => hs (hc2.1 h)
   rw [if_neg (by simpa using hn)]
   exact ⟨v + 1, rfl, Nat.le_refl _, .inr ⟨y, by simpa using hy, by simpa using hs⟩, .inl rfl⟩
theorem ins4 {s : List Feat} {f : Feat} (hs : Srt s) (hl : s.length ≤ 1048576) : ∀ (d v n : Nat), d + 1 < n → v + d = s.length → 1 ≤ v → ∃ w, gl_cm9_4 ((s.length : Int) + 1) 0 n (v : Int) (ins s f s.length) = some (ins s f w) ∧ w ≤ s.length ∧ (w = 0 ∨ ∃ y, s[w - 1]? = some y ∧ slt f.id y.id = false) ∧ (w = s.length ∨ ∃ y, s[w]? = some y ∧ slt f.id y.id = true)
 | _, _, 0, h, _, _ => by omega
 | _, _, 1, h, _, _ => by omega
 | 0, v, n + 2, h, hv, h1 => by
  have e : v = s.length := by omega
  subst e
  obtain ⟨w, g1, g2, g3, g4⟩ := ins5 (s := s) (f := f) hl s.length rounds (by unfold rounds; omega) (Nat.le_refl _)
  refine ⟨w, ?_, g2, g3, g4⟩
  have hw : IntKind.i64.wrap ((s.length : Int) + 1) = (s.length : Int) + 1 := wrap_id (by omega) (by omega)
  unfold gl_cm9_4
  rw [if_pos (by simp; omega), g1, Option.bind_some, hw]
  unfold gl_cm9_4
  rw [if_neg (by simp)]
 | d + 1, v, n + 2, h, hv, h1 => by
  obtain ⟨w, g1, g2⟩ := ins4 hs hl d (v + 1) (n + 1) (by omega) (by omega) (by omega)
  refine ⟨w, ?_, g2⟩
  obtain ⟨x, hx⟩ := getI (xs := s) (i := v) (by omega)
  obtain ⟨y, hy⟩ := getI (xs := s) (i := v - 1) (by omega)
  obtain ⟨c, hc, hc2⟩ := i_cmp x y
  have hsl := hs (v - 1) y x hy (by rw [show v - 1 + 1 = v by omega]; exact hx)
  have hcn : ¬ c < 0 := fun h => by have := hc2.1 h; rw [slt_asymm hsl] at this; cases this
  have hw : IntKind.i64.wrap ((v : Int) - 1) = ((v - 1 : Nat) : Int) := by rw [wrap_id (by omega) (by omega)]; omega
  have hw2 : IntKind.i64.wrap ((v : Int) + 1) = ((v + 1 : Nat) : Int) := by rw [wrap_id (by omega) (by omega)]; omega
  have e1 : (ins s f s.length)[v]? = some x := by rw [ins_get (Nat.le_refl _), if_pos (by omega)]; exact hx
  have e2 : (ins s f s.length)[v - 1]? = some y := by rw [ins_get (Nat.le_refl _), if_pos (by omega)]; exact hy
  have inner : gl_cm9_5 0 rounds (v : Int) (ins s f s.length) = some (ins s f s.length) := by
   rw [show rounds = 4194303 + 1 from rfl]
   unfold gl_cm9_5
   rw [if_pos (by simp; omega), idx_nat, e1, Option.bind_some, hw, idx_nat, e2, Option.bind_some, hc, Option.bind_some, if_neg (by simpa using hcn)]
  unfold gl_cm9_4
  rw [if_pos (by simp; omega), inner, Option.bind_some, hw2]
  exact g1
theorem i_sort {s : List Feat} {f : Feat} (hs : Srt s) (hl : s.length ≤ 7) (hlen : ∃ k, gf_bm9 (IntKind.u64.wrap ((s ++ [f]).length : Int)) = some k) : ∃ w, gf_ck9 (s ++ [f]) = some (ins s f w) ∧ w ≤ s.length ∧ (w = 0 ∨ ∃ y, s[w - 1]? = some y ∧ slt f.id y.id = false) ∧ (w = s.length ∨ ∃ y, s[w]? = some y ∧ slt f.id y.id = true) := by
 obtain ⟨k, hk⟩ := hlen
 have e0 : ins s f s.length = s ++ [f] := by unfold ins; simp
 have key : ∃ w, gf_cm9 (s ++ [f]) 0 ((s ++ [f]).length : Int) = some (ins s f w) ∧ w ≤ s.length ∧ (w = 0 ∨ ∃ y, s[w - 1]? = some y ∧ slt f.id y.id = false) ∧ (w = s.length ∨ ∃ y, s[w]? = some y ∧ slt f.id y.id = true) := by
  have hw : IntKind.i64.wrap ((0 : Int) + 1) = ((1 : Nat) : Int) := by decide
  have hll : ((s ++ [f]).length : Int) = (s.length : Int) + 1 := by simp
  unfold gf_cm9
  rw [hw, hll, ← e0]
  rcases Nat.eq_zero_or_pos s.length with h0 | h0
  ·refine ⟨s.length, ?_, Nat.le_refl _, .inl h0, .inl rfl⟩
   rw [show rounds = 4194303 + 1 from rfl]
   unfold gl_cm9_4
   rw [if_neg (by simp; omega)]
   rfl
  ·obtain ⟨w, g1, g2⟩ := ins4 (f := f) hs (by omega) (s.length - 1) 1 rounds (by unfold rounds; omega) (by omega) (Nat.le_refl _)
   exact ⟨w, by rw [g1]; rfl, g2⟩
 obtain ⟨w, g1, g2⟩ := key
 refine ⟨w, ?_, g2⟩
 unfold gf_ck9 gf_co9
 rw [hk, Option.bind_some, show rounds = 4194303 + 1 from rfl]
 unfold gl_co9_1
 rw [if_pos (by rw [wrap_id (by omega) (by simp; omega)]; simp; omega), g1]
 rfl
theorem len_some {n : Nat} (h : n ≤ 8) : ∃ k, gf_bm9 (IntKind.u64.wrap (n : Int)) = some k := by
 have key : ∀ m : Fin 9, (gf_bm9 (IntKind.u64.wrap (m.val : Int))).isSome = true := by decide +kernel
 have := key ⟨n, by omega⟩
 exact Option.isSome_iff_exists.1 this
theorem i_featAt {s : List Feat} {id : Str} (hl : s.length ≤ 1048576) : gf_bf9 s id = some (fstFrom (fun f : Feat => decide (f.id = id)) s 0) := by
 unfold gf_bf9 gf_cd9
 have h := loopF (gl := gl_cd9_1 id) (p := fun f : Feat => decide (f.id = id)) (ok := fun _ => True) (fun _ => rfl) (fun x l k _ => by simp only [gl_cd9_1, gf_bg9, Option.bind_some, seq_dec]) s 0 fun _ _ => trivial
 rw [if_pos (fits_small hl)]
 exact (congrArg (fun o => Option.bind o fun x2 => some x2) h)
theorem fst_none {α : Type} {p : α → Bool} : ∀ {l : List α} {k : Nat}, fstFrom p l k < 0 → ∀ x ∈ l, p x = false
 | [], k, h, x, hx => by simp at hx
 | y :: l, k, h, x, hx => by
  simp only [fstFrom] at h
  by_cases hp : p y = true
  ·rw [if_pos hp] at h; omega
  ·rw [if_neg hp] at h
   rcases List.mem_cons.1 hx with rfl | hx
   ·simpa using hp
   ·exact fst_none h x hx
theorem sum_setle {α : Type} {w : α → Nat} : ∀ (xs : List α) (k : Nat) (y : α), sumW w (xs.set k y) ≤ sumW w xs + w y
 | [], k, y => by simp [sumW]
 | x :: xs, 0, y => by simp only [List.set_cons_zero, sumW]; omega
 | x :: xs, k + 1, y => by
  have := sum_setle (w := w) xs k y
  simp only [List.set_cons_succ, sumW]
  omega
theorem ins_w {s : List Feat} {f : Feat} {v : Nat} : wL wFeat (ins s f v) = wL wFeat s + (1 + wFeat f) := by
 unfold ins
 have h1 := wL_append (w := wFeat) (s.take v) (f :: s.drop v)
 have h2 := wL_append (w := wFeat) (s.take v) (s.drop v)
 rw [List.take_append_drop] at h2
 have h3 : wL wFeat (f :: s.drop v) = wL wFeat (s.drop v) + (1 + wFeat f) := by unfold wL; simp only [sumW, List.length_cons]; omega
 omega
theorem i_SheetPut {s : List Feat} {f : Feat} (hw : wL wFeat s ≤ 100000) (hf : wFeat f ≤ 1000) : ∃ x ok, gf_aw9 s f = some (x, ok) ∧ (ok = true → mSheet x = true ∧ wL wFeat x ≤ 102000) := by
 unfold gf_aw9
 rw [i_SheetOk (by omega), Option.bind_some]
 by_cases h1 : mSheet s = true
 rotate_left
 ·rw [if_pos (by simpa using h1)]
  exact ⟨_, _, rfl, fun h => by cases h⟩
 rw [if_neg (by simp [h1]), i_FeatOk (by omega), Option.bind_some]
 by_cases h2 : mFeat f = true
 rotate_left
 ·rw [if_pos (by simpa using h2)]
  exact ⟨_, _, rfl, fun h => by cases h⟩
 obtain ⟨a1, a2, a3⟩ := mSheet_iff.1 h1
 rw [if_neg (by simp [h2]), i_cloneSheet (by omega), Option.bind_some, i_featAt (by omega), Option.bind_some]
 rcases fst_cases (p := fun g : Feat => decide (g.id = f.id)) (l := s) (k := 0) with e | ⟨j, g, e, hg, hp⟩
 rotate_left
 ·have hid : g.id = f.id := by simpa using hp
  simp only [Nat.zero_add] at e
  rw [e, if_pos (by simp), i_cloneFeat (by omega), Option.bind_some, idx_nat, hg, Option.bind_some, Int.toNat_natCast]
  refine ⟨_, _, rfl, fun _ => ⟨mSheet_iff.2 ⟨fun y hy => ?_, fun k x y hx hy => ?_, by simpa using a3⟩, ?_⟩⟩
  ·rcases List.mem_or_eq_of_mem_set hy with h | h
   ·exact a1 y h
   ·rw [h]; exact h2
  ·have key : ∀ (q : Nat) (z : Feat), (s.set j f)[q]? = some z → ∃ z', s[q]? = some z' ∧ z'.id = z.id := fun q z hz => by
    by_cases hq : j = q
    ·subst hq
     rw [List.getElem?_set_self (get_lt hg)] at hz
     cases hz
     exact ⟨g, hg, hid⟩
    ·rw [List.getElem?_set_ne hq] at hz
     exact ⟨z, hz, rfl⟩
   obtain ⟨x', hx1, hx2⟩ := key k x hx
   obtain ⟨y', hy1, hy2⟩ := key (k + 1) y hy
   rw [← hx2, ← hy2]
   exact a2 k x' y' hx1 hy1
  ·have := sum_setle (w := wFeat) s j f
   unfold wL at hw ⊢
   rw [List.length_set]
   omega
 ·have hno := fst_none (p := fun g : Feat => decide (g.id = f.id)) (l := s) (k := 0) (by omega)
  rw [e, if_neg (by decide)]
  by_cases h8 : s.length = 8
  ·rw [if_pos (by simp; omega)]
   exact ⟨_, _, rfl, fun h => by cases h⟩
  rw [if_neg (by simp; omega), if_pos (fits_small (by simp; omega))]
  obtain ⟨w, g1, g2, g3, g4⟩ := i_sort (f := f) a2 (by omega) (len_some (n := (s ++ [f]).length) (by simp; omega))
  have hiw := ins_w (s := s) (f := f) (v := w)
  rw [g1, Option.bind_some, i_cloneSheet (by omega), Option.bind_some]
  refine ⟨_, _, rfl, fun _ => ⟨mSheet_iff.2 ⟨fun y hy => ?_, ins_srt a2 g2 ?_ ?_, by rw [ins_len g2]; omega⟩, by omega⟩⟩
  ·unfold ins at hy
   rcases List.mem_append.1 hy with h | h
   ·exact a1 y (List.mem_of_mem_take h)
   ·rcases List.mem_cons.1 h with rfl | h
    ·exact h2
    ·exact a1 y (List.mem_of_mem_drop h)
  ·rcases g3 with g3 | ⟨y, hy, g3⟩
   ·exact .inl g3
   ·refine .inr ⟨y, hy, slt_tri g3 fun e => ?_⟩
    have := hno y (List.mem_of_getElem? hy)
    simp [e] at this
  ·exact g4
theorem dr_SheetPut (code : List UInt8) : ∃ s f, gf_cp9 code = some (s, f) ∧ bS 0 s ∧ bF 0 f := by
 obtain ⟨bs, h0, hb⟩ := dr_open code
 obtain ⟨s, p1, h1, a1, b1, hs⟩ := dr_l3Bent bs 0 hb (by omega) (by omega)
 obtain ⟨f, p2, h2, a2, b2, hf⟩ := dr_l2Bent bs p1 hb (by omega) (by omega)
 unfold gf_cp9
 rw [h0, Option.bind_some, h1, Option.bind_some]
 simp only
 rw [h2, Option.bind_some]
 exact ⟨_, _, rfl, hs, hf⟩
abbrev mnS : Str := ⟨#[109, 97, 105, 110]⟩
abbrev annS : Str := ⟨#[97, 110, 110]⟩
structure Line (r : Repo) (n : Nat) (w : Nat) : Prop where
 ok : mRepo r = true
 len : r.commits.length = n
 pos : 1 ≤ n
 hd : r.heads = [⟨mnS, (n : Int) - 1⟩]
 up : ∀ (k : Nat) (c : Commit), r.commits[k + 1]? = some c → c.up = [(k : Int)]
 w : wRepo r ≤ w
theorem line_root {r : Repo} {n w : Nat} (h : Line r n w) {c : Commit} (hc : r.commits[0]? = some c) : c.up = [] := by
 have h1 := (commits_up (repo_commits h.ok) hc).1
 unfold mUp at h1
 simp only [Bool.and_eq_true, decide_eq_true_eq, beq_iff_eq] at h1
 have h2 := decide_eq_decide.1 h1.2.2.1
 exact List.length_eq_zero_iff.1 (by omega)
theorem line_add {r : Repo} {n w : Nat} {x : List Feat} (h : Line r n w) (hx : mSheet x = true) (hxw : wL wFeat x ≤ 102000) (hw : w ≤ 800000) : ∃ y c, mAdd r mnS x annS = (y, c) ∧ ((c = 0 ∧ Line y (n + 1) (w + 102010)) ∨ (c ≠ 0 ∧ Line y n w)) := by
 have hmw := mAdd_w (r := r) (n := mnS) (t := annS) (s := x)
 have hpos := h.pos
 have hlen := h.len
 have hw' := h.w
 have hH : mHead r.heads mnS = ((0 : Nat) : Int) := by rw [h.hd]; rfl
 have hz : r.heads[0]? = some ⟨mnS, (n : Int) - 1⟩ := by rw [h.hd]; rfl
 by_cases hc : (mAdd r mnS x annS).2 = 0
 ·obtain ⟨_, _, _, i, z, c, hi, hzi, hx1, hne, hcase⟩ := mAdd_fine hc
  have hi0 : i = 0 := by omega
  subst hi0
  rw [hz] at hzi
  cases hzi
  rcases hcase with ⟨hf, hl, e⟩ | ⟨hf, e⟩
  ·refine ⟨_, _, e, .inl ⟨rfl, ?_⟩⟩
   rw [e] at hmw
   have hcm := mRepo_commit (r := r) (u := (n : Int) - 1) (s := x) (t := annS) h.ok hl (by omega) (by omega) hx (by decide) hf
   refine ⟨mRepo_set (r := ⟨r.commits ++ [⟨[(n : Int) - 1], x, annS⟩], r.heads⟩) (z := ⟨mnS, (n : Int) - 1⟩) hcm.1 hz (by omega) (by simp; omega), by simp [hlen], by omega, ?_, fun k c hk => ?_, ?_⟩
   ·rw [h.hd]
    simp [hlen]
   ·simp only at hk
    rcases Nat.lt_or_ge (k + 1) r.commits.length with hkl | hkl
    ·rw [List.getElem?_append_left hkl] at hk
     exact h.up k c hk
    ·have e1 : k + 1 = r.commits.length := by have := get_lt hk; simp at this; omega
     rw [e1] at hk
     simp at hk
     rw [← hk]
     simp
     omega
   ·have : annS.size = 3 := rfl
    simp only at hmw ⊢
    omega
  ·exfalso
   rcases fst_cases (p := fun y : Commit => decide (y = ⟨[(n : Int) - 1], x, annS⟩)) (l := r.commits) (k := 0) with e2 | ⟨j, y, e2, hy, hp⟩
   ·have : mFind r.commits ⟨[(n : Int) - 1], x, annS⟩ = -1 := e2
    simp only at hf
    omega
   ·have ey : y = ⟨[(n : Int) - 1], x, annS⟩ := by simpa using hp
    have hjl := get_lt hy
    cases j with
    | zero =>
     have := line_root h hy
     rw [ey] at this
     cases this
    | succ j =>
     have := h.up j y hy
     rw [ey] at this
     simp at this
     omega
 ·have key : (mAdd r mnS x annS).1 = r := by
   unfold mAdd at hc ⊢
   rw [if_pos (by rw [h.ok, hx]; decide), hH, idx_nat, hz] at hc ⊢
   simp only at hc ⊢
   split
   ·rfl
   ·split
    ·rfl
    ·rename_i h1 h2
     rw [h1] at hc
     simp only at hc
     rw [if_neg h2] at hc
     split
     ·rename_i h3
      rw [if_pos h3] at hc
      split
      ·rfl
      ·rename_i h4
       rw [if_neg h4] at hc
       exact absurd rfl hc
     ·rename_i h3
      rw [if_neg h3] at hc
      exact absurd rfl hc
  exact ⟨(mAdd r mnS x annS).1, (mAdd r mnS x annS).2, rfl, .inr ⟨hc, by rw [key]; exact h⟩⟩
theorem line_loop (code : List UInt8) : ∀ (d m i n w : Nat) (cs : List Commit) (hs : List Head), d < m → i + d = 6 → n ≤ i + 1 → w + 102010 * d ≤ 800000 → Line ⟨cs, hs⟩ n w → ∃ (n' : Nat) (cs' : List Commit) (hs' : List Head), gl_bl9_1 code m (n : Int) (i : Int) cs hs = some ((n' : Int), cs', hs') ∧ n' ≤ 7 ∧ Line ⟨cs', hs'⟩ n' 800000
 | _, 0, _, _, _, _, _, h, _, _, _, _ => by omega
 | 0, m + 1, i, n, w, cs, hs, h, hi, hn, hw, hL => by
  refine ⟨n, cs, hs, ?_, by omega, ⟨hL.ok, hL.len, hL.pos, hL.hd, hL.up, by have := hL.w; omega⟩⟩
  unfold gl_bl9_1
  rw [if_neg (by simp; omega)]
 | d + 1, m + 1, i, n, w, cs, hs, h, hi, hn, hw, hL => by
  have hw1 : IntKind.i64.wrap ((i : Int) + 1) = ((i + 1 : Nat) : Int) := by rw [wrap_id (by omega) (by omega)]; omega
  have hw2 : IntKind.i64.wrap ((n : Int) + 1) = ((n + 1 : Nat) : Int) := by rw [wrap_id (by omega) (by omega)]; omega
  have hcut : ∃ cut, (if (decide ((i : Int) < (code.length : Int))) = true then ((slc code (i : Int) (code.length : Int)).bind fun x160 => some x160) else (some code) : Option (List UInt8)) = some cut := by
   split
   ·rename_i hc
    have hc := of_decide_eq_true hc
    unfold slc
    rw [if_pos ⟨by omega, by omega, by omega⟩]
    exact ⟨_, rfl⟩
   ·exact ⟨_, rfl⟩
  obtain ⟨cut, hcut⟩ := hcut
  obtain ⟨s, f, h1, hs1, hf1⟩ := dr_SheetPut cut
  have hsw := bS_w hs1 (by omega)
  have hfw := bF_w hf1 (by omega)
  obtain ⟨x, ok, h2, h3⟩ := i_SheetPut (s := s) (f := f) (by omega) (by omega)
  unfold gl_bl9_1
  rw [if_pos (by simp; omega), hcut, Option.bind_some, h1, Option.bind_some, h2, Option.bind_some, hw1]
  simp only
  cases ok
  ·rw [if_pos (by decide)]
   exact line_loop code d m (i + 1) n w cs hs (by omega) (by omega) (by omega) (by omega) hL
  ·obtain ⟨hm, hxw⟩ := h3 rfl
   obtain ⟨y, c, e, hcase⟩ := line_add hL hm hxw (by omega)
   have hrw := hL.w
   have e1 : (⟨#[109, 97, 105, 110]⟩ : Str) = mnS := rfl
   have e2 : (⟨#[97, 110, 110]⟩ : Str) = annS := rfl
   have za : annS.size = 3 := rfl
   rw [if_neg (by decide), e1, e2, i_RepoAdd (by omega) (by omega) (by omega) (by omega), e, Option.bind_some]
   simp only
   rcases hcase with ⟨hc, hy⟩ | ⟨hc, hy⟩
   ·rw [if_pos (by simpa using hc), hw2]
    exact line_loop code d m (i + 1) (n + 1) (w + 102010) y.commits y.heads (by omega) (by omega) (by omega) (by omega) hy
   ·rw [if_neg (by simpa using hc)]
    exact line_loop code d m (i + 1) n w y.commits y.heads (by omega) (by omega) (by omega) (by omega) hy
theorem line_anc {r : Repo} {n w : Nat} (h : Line r n w) : ∀ (d b : Nat), b + d < n → Anc r.commits (b + d) b
 | 0, b, hb => .refl b
 | d + 1, b, hb => by
  have hl := h.len
  obtain ⟨c, hc⟩ := getI (xs := r.commits) (i := b + 1) (by omega)
  have hu := h.up b c hc
  have h1 := line_anc h d (b + 1) (by omega)
  have h2 : Anc r.commits (b + 1 + d) ((b : Int)).toNat := .up h1 hc (by rw [hu]; simp)
  rw [Int.toNat_natCast] at h2
  rwa [show b + (d + 1) = b + 1 + d by omega]
theorem downF_all {p : Nat → Bool} : ∀ {n : Nat}, (∀ k, k < n → p k = true) → (downF p n).length = n ∧ ∀ v, v < n → (downF p n)[v]? = some (((n - 1 - v : Nat)) : Int)
 | 0, h => ⟨rfl, fun v hv => by omega⟩
 | n + 1, h => by
  obtain ⟨h1, h2⟩ := downF_all (p := p) (n := n) fun k hk => h k (by omega)
  simp only [downF]
  rw [if_pos (h n (by omega))]
  refine ⟨by simp [h1], fun v hv => ?_⟩
  cases v with
  | zero => simp
  | succ v =>
   rw [List.getElem?_cons_succ, h2 v (by omega)]
   congr 2
   omega
theorem downF_one {p : Nat → Bool} {v : Nat} (h : ∀ k, p k = true ↔ k = v) : ∀ {n : Nat}, v < n → downF p n = [(v : Int)]
 | 0, hv => by omega
 | n + 1, hv => by
  simp only [downF]
  have none : ∀ m, m ≤ v → downF p m = [] := fun m => by
   induction m with
   | zero => intro _; rfl
   | succ m ih =>
    intro hm
    simp only [downF]
    rw [if_neg (fun e => by have := (h m).1 e; omega)]
    exact ih (by omega)
  by_cases e : n = v
  ·subst e
   rw [if_pos ((h n).2 rfl), none n (Nat.le_refl _)]
  ·rw [if_neg (fun e2 => e ((h n).1 e2))]
   exact downF_one h (by omega)
open Classical in
theorem line2_loop {r : Repo} {n w : Nat} {past : List Int} (h : Line r n w) (hw : w ≤ 1048576) (hn : n ≤ 7) (hp : ∀ v, v < n → past[v]? = some (((n - 1 - v : Nat)) : Int)) : ∀ (d m v : Nat), d < m → v + d = n → gl_bl9_2 ((n : Int), r.commits, r.heads) past m (v : Int) = some (.inr ())
 | _, 0, _, h, _ => by omega
 | 0, m + 1, v, hm, hv => by
  unfold gl_bl9_2
  rw [if_neg (by simp; omega)]
 | d + 1, m + 1, v, hm, hv => by
  have hl := h.len
  have hpos := h.pos
  have hc := repo_hist h.ok
  have e1 : IntKind.i64.wrap ((n : Int) - 1) = ((n - 1 : Nat) : Int) := by rw [wrap_id (by omega) (by omega)]; omega
  have e2 : IntKind.i64.wrap (((n - 1 : Nat) : Int) - (v : Int)) = ((n - 1 - v : Nat) : Int) := by rw [wrap_id (by omega) (by omega)]; omega
  have e3 : IntKind.i64.wrap ((v : Int) + 1) = ((v + 1 : Nat) : Int) := by rw [wrap_id (by omega) (by omega)]; omega
  have hin : (inR r (v : Int) && inR r ((n - 1 : Nat) : Int)) = true := by unfold inR; rw [h.ok]; simp; omega
  have hbase : mBases r.commits v (n - 1) = [(v : Int)] := by
   unfold mBases
   refine downF_one (fun k => ?_) (by omega)
   rw [decide_eq_true_eq]
   have hcv : Com r.commits v (n - 1) v := ⟨.refl v, by have := line_anc h (n - 1 - v) v (by omega); rwa [show v + (n - 1 - v) = n - 1 by omega] at this⟩
   constructor
   ·intro hb
    have hk := hb.1.1.le hc
    have := hb.2 v hcv (by have := line_anc h (v - k) k (by omega); rwa [show k + (v - k) = v by omega] at this)
    omega
   ·intro e
    subst e
    exact ⟨hcv, fun j hj hjk => by
     have h1 := hj.1.le hc
     have h2 := hjk.le hc
     omega⟩
  have hr : (⟨r.commits, r.heads⟩ : Repo) = r := rfl
  have hww := h.w
  unfold gl_bl9_2
  simp only [hr, e1, e2, e3]
  rw [if_pos (by simp; omega), idx_nat, hp v (by omega), Option.bind_some, if_neg (by simp), i_RepoBases (by omega), if_pos hin, Option.bind_some, Int.toNat_natCast, Int.toNat_natCast, hbase, if_neg (by simp)]
  rw [show idx [(v : Int)] 0 = some (v : Int) from rfl, Option.bind_some, if_neg (by simp)]
  exact line2_loop h hw hn hp d m (v + 1) (by omega) (by omega)
theorem law_FnRepoLine (code : List UInt8) : gf_bl9 code = some true := by
 unfold gf_bl9
 by_cases hs : (code.length : Int) > 1048576
 ·rw [if_pos (by simpa using hs)]
 rw [if_neg (by simpa using hs)]
 have e1 : (⟨#[109, 97, 105, 110]⟩ : Str) = mnS := rfl
 have zm : mnS.size = 4 := rfl
 have hnew : mNew mnS = (⟨[⟨[], [], beginS⟩], [⟨mnS, 0⟩]⟩, true) := by
  unfold mNew
  rw [if_pos (by decide)]
 have hw0 : wRepo ⟨[⟨[], [], beginS⟩], [⟨mnS, 0⟩]⟩ ≤ 100 := by decide
 have hline : Line ⟨[⟨[], [], beginS⟩], [⟨mnS, 0⟩]⟩ 1 100 := ⟨mRepo_new (by decide), rfl, Nat.le_refl _, rfl, fun k c hk => by simp at hk, hw0⟩
 rw [e1, i_RepoNew (by omega), Option.bind_some, s_RepoNew (by omega), Option.bind_some, hnew]
 simp only
 rw [if_neg (by decide), if_neg (by decide), i_RepoSame (by omega), Option.bind_some, if_neg (by simp)]
 obtain ⟨n, cs, hs, h1, h2, hL⟩ := line_loop code 6 rounds 0 1 100 _ _ (by unfold rounds; omega) (by omega) (by omega) (by omega) hline
 have h1' : gl_bl9_1 code rounds 1 0 [⟨[], [], beginS⟩] [⟨mnS, 0⟩] = some ((n : Int), cs, hs) := h1
 rw [h1', Option.bind_some]
 simp only
 have hlen := hL.len
 have hpos := hL.pos
 have hww := hL.w
 have hhd := hL.hd
 simp only at hlen hhd
 have hat : mRepoAt ⟨cs, hs⟩ mnS = ((n - 1 : Nat) : Int) := by
  have := repoAt_mk (r := ⟨cs, hs⟩) (n := mnS) (i := 0) (z := ⟨mnS, (n : Int) - 1⟩) hL.ok (by simp only; rw [hhd]; rfl) (by simp only; rw [hhd]; rfl)
  rw [this]
  simp only
  omega
 have hin : inR ⟨cs, hs⟩ ((n - 1 : Nat) : Int) = true := by unfold inR; rw [hL.ok]; simp; omega
 have hall := downF_all (p := trueAt (mark cs [n - 1])) (n := n) fun k hk => by
  obtain ⟨b, hb, he⟩ := mark_get (cs := cs) (F := [n - 1]) (j := k) (by omega)
  unfold trueAt
  rw [hb, he.2 ⟨n - 1, by simp, by have := line_anc hL (n - 1 - k) k (by omega); rwa [show k + (n - 1 - k) = n - 1 by omega] at this⟩]
  rfl
 have hpast : mPast cs (n - 1) = downF (trueAt (mark cs [n - 1])) n := by unfold mPast; rw [hlen]
 rw [i_RepoAt' (by omega), Option.bind_some, hat, i_RepoPast (by omega), if_pos hin, Option.bind_some, Int.toNat_natCast]
 simp only
 rw [hpast, if_neg (by simp [hall.1]), if_neg (by simp [hlen])]
 have := line2_loop hL (by omega) h2 hall.2 n rounds 0 (by unfold rounds; omega) (by omega)
 have this' : gl_bl9_2 ((n : Int), cs, hs) (downF (trueAt (mark cs [n - 1])) n) rounds 0 = some (.inr ()) := this
 rw [this']
 rfl
end Go.Proofs.AM
