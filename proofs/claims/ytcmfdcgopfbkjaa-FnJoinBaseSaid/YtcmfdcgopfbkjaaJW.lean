/- A part of the proofs of this seat's statements (JW): lemmas on an abstract machine for the program's functions. Conditions: none. -/
import Derived.Test.YtcmfdcgopfbkjaaJD
import Derived.Test.YtcmfdcgopfbkjaaM2
/-! The plain laws. -/
set_option linter.unusedVariables false
set_option linter.unusedSimpArgs false
set_option maxRecDepth 10000
namespace Go.Proofs.AM

theorem s_WordOk {s : Str} (h : s.size ≤ 1048576) : gf_spec_WordOk s = some (mWord s) := by
  unfold gf_spec_WordOk mWord
  rw [if_pos (fits_small h), loopB (gl := gl_spec_WordOk_1) (p := fun (b : UInt8) _ => decide (97 ≤ b.toNat) && decide (b.toNat ≤ 122)) (xs := s.data.toList) (fun _ => rfl) (fun x l k _ => ?_) s.data.toList 0 rfl]
  · have e1 : ((s.size : Int) ≥ 1) ↔ 1 ≤ s.size := by omega
    have e2 : ((s.size : Int) ≤ 6) ↔ s.size ≤ 6 := by omega
    cases allFrom (fun (b : UInt8) _ => decide (97 ≤ b.toNat) && decide (b.toNat ≤ 122)) s.data.toList 0
    · rfl
    · by_cases h1 : 1 ≤ s.size <;> simp [e1, e2, h1]
  · have e1 : ((x.toNat : Int) < 97) ↔ ¬ 97 ≤ x.toNat := by omega
    have e2 : ((x.toNat : Int) > 122) ↔ ¬ x.toNat ≤ 122 := by omega
    simp only [gl_spec_WordOk_1, e1, e2]
    by_cases h1 : 97 ≤ x.toNat <;> by_cases h2 : x.toNat ≤ 122 <;> simp [h1, h2]
theorem i_WordOk {s : Str} (h : s.size ≤ 1048576) : gf_impl_WordOk s = some (mWord s) := by
  unfold gf_impl_WordOk mWord
  rw [if_pos (fits_small h), loopB (gl := gl_impl_WordOk_1) (p := fun (b : UInt8) _ => decide (97 ≤ b.toNat) && decide (b.toNat ≤ 122)) (xs := s.data.toList) (fun _ => rfl) (fun x l k _ => ?_) s.data.toList 0 rfl]
  · have e1 : ((s.size : Int) ≥ 1) ↔ 1 ≤ s.size := by omega
    have e2 : ((s.size : Int) ≤ 6) ↔ s.size ≤ 6 := by omega
    cases allFrom (fun (b : UInt8) _ => decide (97 ≤ b.toNat) && decide (b.toNat ≤ 122)) s.data.toList 0
    · rfl
    · by_cases h1 : 1 ≤ s.size <;> simp [gf_impl_within, e1, e2, h1]
  · have e1 : ((x.toNat : Int) < 97) ↔ ¬ 97 ≤ x.toNat := by omega
    have e2 : ((x.toNat : Int) > 122) ↔ ¬ x.toNat ≤ 122 := by omega
    simp only [gl_impl_WordOk_1, e1, e2]
    by_cases h1 : 97 ≤ x.toNat <;> by_cases h2 : x.toNat ≤ 122 <;> simp [h1, h2]
theorem s_l1Num (n : Int) : gf_spec_l1Num n = some (mNum n) := by
  unfold gf_spec_l1Num mNum
  by_cases h : -1000 ≤ n <;> simp [h]
theorem i_within (n a b : Int) : gf_impl_within n a b = some (decide (a ≤ n) && decide (n ≤ b)) := by
  unfold gf_impl_within
  by_cases h : a ≤ n <;> simp [h]
theorem s_l1Pts {xs : List Pt} (h : xs.length ≤ 1048576) : gf_spec_l1Pts xs = some (mPts xs && decide (xs.length ≤ 6)) := by
  unfold gf_spec_l1Pts mPts
  rw [if_pos (fits_small h), loopB (gl := gl_spec_l1Pts_1 xs) (p := fun p k => mNum p.x && (mNum p.y && (decide (k = 0) || decide (xs[k - 1]? ≠ some p)))) (xs := xs) (fun _ => rfl) (fun x l k hd => ?_) xs 0 rfl]
  · rw [show decide ((xs.length : Int) ≤ 6) = decide (xs.length ≤ 6) from decI]
    exact endB
  · simp only [gl_spec_l1Pts_1, s_l1Num, Option.bind_some, ptb, posI]
    rcases Nat.eq_zero_or_pos k with rfl | hk
    · cases mNum x.x <;> cases mNum x.y <;> simp
    · obtain ⟨y, hy⟩ := drop_prev hd hk
      have hl := drop_len hd
      have hw := wrap_pred hk (by omega)
      rw [hw, idx_nat, hy]
      have hk' : ¬ k = 0 := by omega
      by_cases e : x = y
      · subst e
        cases mNum x.x <;> cases mNum x.y <;> simp [hk, hk', hy]
      · have e' : ¬ y = x := fun h => e h.symm
        cases mNum x.x <;> cases mNum x.y <;> simp [hk, hk', hy, e, e']
theorem s_ShapeOk {x : Shape} (h : x.pts.length ≤ 1048576) : gf_spec_ShapeOk x = some (mShape x) := by
  unfold gf_spec_ShapeOk mShape
  rw [s_l1Pts h]
  simp only [Option.bind_some, ptb]
  have c1 : ((x.pts.length : Int) == 1) = decide (x.pts.length = 1) := by
    by_cases e : x.pts.length = 1 <;> simp [e] <;> omega
  have c2 : ((x.pts.length : Int) ≥ 2) ↔ 2 ≤ x.pts.length := by omega
  have c3 : ((x.pts.length : Int) ≥ 3) ↔ 3 ≤ x.pts.length := by omega
  cases mPts x.pts
  · simp
  · by_cases hl : x.pts.length ≤ 6
    · by_cases k1 : x.kind = 1
      · simp [k1, hl, c1]
      · by_cases k2 : x.kind = 2
        · simp [k2, hl, c2]
        · by_cases k3 : x.kind = 3
          · by_cases h3 : 3 ≤ x.pts.length
            · obtain ⟨p, hp⟩ : ∃ p, x.pts[0]? = some p := ⟨x.pts[0], List.getElem?_eq_getElem (by omega)⟩
              obtain ⟨q, hq⟩ : ∃ p, x.pts[x.pts.length - 1]? = some p := ⟨x.pts[x.pts.length - 1], List.getElem?_eq_getElem (by omega)⟩
              have hw := wrap_pred (k := x.pts.length) (by omega) (by omega)
              have e0 : idx x.pts 0 = some p := by rw [← hp]; exact idx_nat (k := 0)
              have e1 : idx x.pts ((x.pts.length - 1 : Nat) : Int) = some q := by rw [← hq]; exact idx_nat
              rw [hw]
              simp [k3, hl, c3, h3, e0, e1, hp, hq]
            · simp [k3, hl, c3, h3]
          · simp [k1, k2, k3, hl]
    · simp [hl]
theorem i_ptOk (p : Pt) : gf_impl_ptOk p = some (mNum p.x && mNum p.y) := by
  unfold gf_impl_ptOk mNum
  rw [i_within, i_within]
  simp only [Option.bind_some]
  cases (decide (-1000 ≤ p.x) && decide (p.x ≤ 1000)) <;> simp
theorem i_ShapeOk {x : Shape} (h : x.pts.length ≤ 1048576) : gf_impl_ShapeOk x = some (mShape x) := by
  unfold gf_impl_ShapeOk mShape
  have c1 : ((x.pts.length : Int) == 1) = decide (x.pts.length = 1) := by
    by_cases e : x.pts.length = 1 <;> simp [e] <;> omega
  have c2 : ((2 : Int) ≤ (x.pts.length : Int)) ↔ 2 ≤ x.pts.length := by omega
  have c3 : ((3 : Int) ≤ (x.pts.length : Int)) ↔ 3 ≤ x.pts.length := by omega
  have c6 : ((x.pts.length : Int) ≤ 6) ↔ x.pts.length ≤ 6 := by omega
  rw [if_pos (fits_small h), loopB (gl := gl_impl_ShapeOk_1 x) (p := fun p k => mNum p.x && (mNum p.y && (decide (k = 0) || decide (x.pts[k - 1]? ≠ some p)))) (xs := x.pts) (fun _ => rfl) (fun y l k hd => ?_) x.pts 0 rfl]
  · show _ = some (mPts x.pts && _)
    have hm : allFrom (fun (p : Pt) k => mNum p.x && (mNum p.y && (decide (k = 0) || decide (x.pts[k - 1]? ≠ some p)))) x.pts 0 = mPts x.pts := rfl
    rw [hm]
    cases mPts x.pts
    · rfl
    · simp only [if_true, Option.bind_some, ptb, i_within]
      by_cases k1 : x.kind = 1
      · by_cases e : x.pts.length = 1 <;> simp [k1, c1, e]
      · by_cases k2 : x.kind = 2
        · by_cases e : x.pts.length ≤ 6 <;> simp [k2, c2, c6, e]
        · by_cases k3 : x.kind = 3
          · by_cases h3 : 3 ≤ x.pts.length
            · obtain ⟨p, hp⟩ : ∃ p, x.pts[0]? = some p := ⟨x.pts[0], List.getElem?_eq_getElem (by omega)⟩
              obtain ⟨q, hq⟩ : ∃ p, x.pts[x.pts.length - 1]? = some p := ⟨x.pts[x.pts.length - 1], List.getElem?_eq_getElem (by omega)⟩
              have hw := wrap_pred (k := x.pts.length) (by omega) (by omega)
              have e0 : idx x.pts 0 = some p := by rw [← hp]; exact idx_nat (k := 0)
              have e1 : idx x.pts ((x.pts.length - 1 : Nat) : Int) = some q := by rw [← hq]; exact idx_nat
              rw [hw]
              by_cases e : x.pts.length ≤ 6 <;> simp [k3, c3, c6, h3, e0, e1, hp, hq, e]
            · simp [k3, c3, c6, h3]
          · simp [k1, k2, k3]
  · simp only [gl_impl_ShapeOk_1, i_ptOk, Option.bind_some, ptb, posI]
    rcases Nat.eq_zero_or_pos k with rfl | hk
    · cases mNum y.x <;> cases mNum y.y <;> simp
    · obtain ⟨z, hz⟩ := drop_prev hd hk
      have hl := drop_len hd
      have hw := wrap_pred hk (by omega)
      rw [hw, idx_nat, hz]
      have hk' : ¬ k = 0 := by omega
      by_cases e : z = y <;> cases mNum y.x <;> cases mNum y.y <;> simp [hk, hk', hz, e]
theorem s_l2Tags {ts : List Tag} (h : wL wTag ts ≤ 1048576) : gf_spec_l2Tags ts = some (mTags ts && decide (ts.length ≤ 4)) := by
  have hlen : ts.length ≤ 1048576 := by unfold wL at h; omega
  unfold gf_spec_l2Tags mTags
  rw [if_pos (fits_small hlen), loopB (gl := gl_spec_l2Tags_1 ts) (p := fun t k => mWord t.key && (mWord t.val && (decide (k = 0) || mPrev Tag.key ts t k))) (xs := ts) (fun _ => rfl) (fun x l k hd => ?_) ts 0 rfl]
  · rw [show decide ((ts.length : Int) ≤ 4) = decide (ts.length ≤ 4) from decI]
    exact endB
  · have hx : x ∈ ts := List.mem_of_getElem? (drop_get hd)
    have hs := sum_mem (w := wTag) hx
    unfold wL at h
    have hk1 : x.key.size ≤ 1048576 := by have e0 : wTag x = x.key.size + (x.val.size + 0) := rfl; omega
    have hk2 : x.val.size ≤ 1048576 := by have e0 : wTag x = x.key.size + (x.val.size + 0) := rfl; omega
    simp only [gl_spec_l2Tags_1, s_WordOk hk1, s_WordOk hk2, Option.bind_some, posI, slt_seq]
    rcases Nat.eq_zero_or_pos k with rfl | hk
    · cases mWord x.key <;> cases mWord x.val <;> simp
    · obtain ⟨z, hz⟩ := drop_prev hd hk
      have hl := drop_len hd
      have hw := wrap_pred hk (by omega)
      rw [hw, idx_nat, hz]
      have hk' : ¬ k = 0 := by omega
      cases e : slt z.key x.key <;> cases mWord x.key <;> cases mWord x.val <;> simp [hk, hk', hz, e, mPrev]
theorem s_FeatOk {f : Feat} (h : wFeat f ≤ 1048576) : gf_spec_FeatOk f = some (mFeat f) := by
  unfold wFeat wShape at h
  have h1 : f.id.size ≤ 1048576 := by omega
  have h2 : f.shape.pts.length ≤ 1048576 := by unfold wL at h; omega
  unfold gf_spec_FeatOk mFeat
  rw [s_WordOk h1, s_ShapeOk h2, s_l2Tags (by omega)]
  simp only [Option.bind_some]
  cases mWord f.id <;> cases mShape f.shape <;> simp
theorem i_FeatOk {f : Feat} (h : wFeat f ≤ 1048576) : gf_impl_FeatOk f = some (mFeat f) := by
  unfold wFeat wShape at h
  have h1 : f.id.size ≤ 1048576 := by omega
  have h2 : f.shape.pts.length ≤ 1048576 := by unfold wL at h; omega
  have h3 : wL wTag f.tags ≤ 1048576 := by omega
  have hlen : f.tags.length ≤ 1048576 := by unfold wL at h3; omega
  unfold gf_impl_FeatOk mFeat
  rw [if_pos (fits_small hlen), loopB (gl := gl_impl_FeatOk_1 f) (p := fun t k => mWord t.key && (mWord t.val && (decide (k = 0) || mPrev Tag.key f.tags t k))) (xs := f.tags) (fun _ => rfl) (fun x l k hd => ?_) f.tags 0 rfl]
  · have hm : allFrom (fun (t : Tag) k => mWord t.key && (mWord t.val && (decide (k = 0) || mPrev Tag.key f.tags t k))) f.tags 0 = mTags f.tags := rfl
    rw [hm, i_WordOk h1, i_ShapeOk h2]
    rw [show decide ((f.tags.length : Int) ≤ 4) = decide (f.tags.length ≤ 4) from decI]
    cases mTags f.tags <;> cases mWord f.id <;> cases mShape f.shape <;> simp
  · have hx : x ∈ f.tags := List.mem_of_getElem? (drop_get hd)
    have hs := sum_mem (w := wTag) hx
    unfold wL at h3
    have hk1 : x.key.size ≤ 1048576 := by have e0 : wTag x = x.key.size + (x.val.size + 0) := rfl; omega
    have hk2 : x.val.size ≤ 1048576 := by have e0 : wTag x = x.key.size + (x.val.size + 0) := rfl; omega
    simp only [gl_impl_FeatOk_1, i_WordOk hk1, i_WordOk hk2, Option.bind_some, posI]
    rcases Nat.eq_zero_or_pos k with rfl | hk
    · cases mWord x.key <;> cases mWord x.val <;> simp
    · obtain ⟨z, hz⟩ := drop_prev hd hk
      have hl := drop_len hd
      have hw := wrap_pred hk (by omega)
      rw [hw, idx_nat, hz]
      have hk' : ¬ k = 0 := by omega
      cases e : slt z.key x.key <;> cases mWord x.key <;> cases mWord x.val <;> simp [hk, hk', hz, e, mPrev]
theorem s_SheetOk {fs : List Feat} (h : wL wFeat fs ≤ 1048576) : gf_spec_SheetOk fs = some (mSheet fs) := by
  have hlen : fs.length ≤ 1048576 := by unfold wL at h; omega
  unfold gf_spec_SheetOk mSheet
  rw [if_pos (fits_small hlen), loopB (gl := gl_spec_SheetOk_1 fs) (p := fun f k => mFeat f && (decide (k = 0) || mPrev Feat.id fs f k)) (xs := fs) (fun _ => rfl) (fun x l k hd => ?_) fs 0 rfl]
  · rw [show decide ((fs.length : Int) ≤ 8) = decide (fs.length ≤ 8) from decI]
    exact endB
  · have hx : x ∈ fs := List.mem_of_getElem? (drop_get hd)
    have hs := sum_mem (w := wFeat) hx
    unfold wL at h
    simp only [gl_spec_SheetOk_1, s_FeatOk (f := x) (by omega), Option.bind_some, posI, slt_seq]
    rcases Nat.eq_zero_or_pos k with rfl | hk
    · cases mFeat x <;> simp
    · obtain ⟨z, hz⟩ := drop_prev hd hk
      have hl := drop_len hd
      have hw := wrap_pred hk (by omega)
      rw [hw, idx_nat, hz]
      have hk' : ¬ k = 0 := by omega
      cases e : slt z.id x.id <;> cases mFeat x <;> simp [hk, hk', hz, e, mPrev]
theorem i_SheetOk {fs : List Feat} (h : wL wFeat fs ≤ 1048576) : gf_impl_SheetOk fs = some (mSheet fs) := by
  have hlen : fs.length ≤ 1048576 := by unfold wL at h; omega
  unfold gf_impl_SheetOk mSheet
  rw [if_pos (fits_small hlen), loopB (gl := gl_impl_SheetOk_1 fs) (p := fun f k => mFeat f && (decide (k = 0) || mPrev Feat.id fs f k)) (xs := fs) (fun _ => rfl) (fun x l k hd => ?_) fs 0 rfl]
  · rw [show decide ((fs.length : Int) ≤ 8) = decide (fs.length ≤ 8) from decI]
    exact endB
  · have hx : x ∈ fs := List.mem_of_getElem? (drop_get hd)
    have hs := sum_mem (w := wFeat) hx
    unfold wL at h
    simp only [gl_impl_SheetOk_1, i_FeatOk (f := x) (by omega), Option.bind_some, posI, slt_seq]
    rcases Nat.eq_zero_or_pos k with rfl | hk
    · cases mFeat x <;> simp
    · obtain ⟨z, hz⟩ := drop_prev hd hk
      have hl := drop_len hd
      have hw := wrap_pred hk (by omega)
      rw [hw, idx_nat, hz]
      have hk' : ¬ k = 0 := by omega
      cases e : slt z.id x.id <;> cases mFeat x <;> simp [hk, hk', hz, e, mPrev]
theorem s_l1Same {a b : List Pt} (h : a.length ≤ 1048576) : gf_spec_l1Same a b = some (decide (a = b)) := eqd_list (gl := gl_spec_l1Same_1) (ok := fun _ => True) (fun _ _ => rfl) (fun a x l k y _ hy => by
  simp only [gl_spec_l1Same_1, idx_nat, hy, Option.bind_some, ptb]
  by_cases e : x = y <;> simp [e]) (fun _ _ => rfl) h (fun _ _ => trivial)
theorem i_EqPt {a b : List Pt} (h : a.length ≤ 1048576) : gf_slices_Equal_impl_Pt_impl_Pt a b = some (decide (a = b)) := eqd_list (gl := gl_slices_Equal_impl_Pt_impl_Pt_1) (ok := fun _ => True) (fun _ _ => rfl) (fun a x l k y _ hy => by
  simp only [gl_slices_Equal_impl_Pt_impl_Pt_1, idx_nat, hy, Option.bind_some, ptb]
  by_cases e : x = y <;> simp [e]) (fun _ _ => rfl) h (fun _ _ => trivial)
theorem s_l2Same {a b : List Tag} (h : a.length ≤ 1048576) : gf_spec_l2Same a b = some (decide (a = b)) := eqd_list (gl := gl_spec_l2Same_1) (ok := fun _ => True) (fun _ _ => rfl) (fun a x l k y _ hy => by
  simp only [gl_spec_l2Same_1, idx_nat, hy, Option.bind_some, tagb]
  by_cases e : x = y <;> simp [e]) (fun _ _ => rfl) h (fun _ _ => trivial)
theorem i_EqTag {a b : List Tag} (h : a.length ≤ 1048576) : gf_slices_Equal_impl_Tag_impl_Tag a b = some (decide (a = b)) := eqd_list (gl := gl_slices_Equal_impl_Tag_impl_Tag_1) (ok := fun _ => True) (fun _ _ => rfl) (fun a x l k y _ hy => by
  simp only [gl_slices_Equal_impl_Tag_impl_Tag_1, idx_nat, hy, Option.bind_some, tagb]
  by_cases e : x = y <;> simp [e]) (fun _ _ => rfl) h (fun _ _ => trivial)
theorem s_l7Ints {a b : List Int} (h : a.length ≤ 1048576) : gf_spec_l7Ints a b = some (decide (a = b)) := eqd_list (gl := gl_spec_l7Ints_1) (ok := fun _ => True) (fun _ _ => rfl) (fun a x l k y _ hy => by
  simp only [gl_spec_l7Ints_1, idx_nat, hy, Option.bind_some]
  by_cases e : x = y <;> simp [e]) (fun _ _ => rfl) h (fun _ _ => trivial)
theorem i_EqInt {a b : List Int} (h : a.length ≤ 1048576) : gf_slices_Equal_int_int a b = some (decide (a = b)) := eqd_list (gl := gl_slices_Equal_int_int_1) (ok := fun _ => True) (fun _ _ => rfl) (fun a x l k y _ hy => by
  simp only [gl_slices_Equal_int_int_1, idx_nat, hy, Option.bind_some]
  by_cases e : x = y <;> simp [e]) (fun _ _ => rfl) h (fun _ _ => trivial)
theorem s_ShapeSame {a b : Shape} (h : a.pts.length ≤ 1048576) : gf_spec_ShapeSame a b = some (decide (a = b)) := by
  unfold gf_spec_ShapeSame
  rw [s_l1Same h]
  obtain ⟨k, p⟩ := a; obtain ⟨k2, p2⟩ := b
  by_cases h1 : k = k2 <;> by_cases h2 : p = p2 <;> simp [h1, h2]
theorem s_FeatSame {a b : Feat} (h : wFeat a ≤ 1048576) : gf_spec_FeatSame a b = some (decide (a = b)) := by
  unfold wFeat wShape wL at h
  unfold gf_spec_FeatSame
  rw [s_ShapeSame (by omega), s_l2Same (by omega), seq_dec]
  obtain ⟨i, s, t⟩ := a; obtain ⟨i2, s2, t2⟩ := b
  by_cases h1 : i = i2 <;> by_cases h2 : s = s2 <;> by_cases h3 : t = t2 <;> simp [h1, h2, h3]
theorem i_ShapeSame {a b : Shape} (h : a.pts.length ≤ 1048576) : gf_impl_ShapeSame a b = some (decide (a = b)) := by
  unfold gf_impl_ShapeSame
  rw [i_EqPt h]
  obtain ⟨k, p⟩ := a; obtain ⟨k2, p2⟩ := b
  by_cases h1 : k = k2 <;> by_cases h2 : p = p2 <;> simp [h1, h2]
theorem i_FeatSame {a b : Feat} (h : wFeat a ≤ 1048576) : gf_impl_FeatSame a b = some (decide (a = b)) := by
  unfold wFeat wShape wL at h
  unfold gf_impl_FeatSame
  rw [i_ShapeSame (by omega), i_EqTag (by omega), seq_dec]
  obtain ⟨i, s, t⟩ := a; obtain ⟨i2, s2, t2⟩ := b
  by_cases h1 : i = i2 <;> by_cases h2 : s = s2 <;> by_cases h3 : t = t2 <;> simp [h1, h2, h3]
theorem s_SheetSame {a b : List Feat} (h : wL wFeat a ≤ 1048576) : gf_spec_SheetSame a b = some (decide (a = b)) := eqd_list (gl := gl_spec_SheetSame_1) (ok := fun x => wFeat x ≤ 1048576) (fun _ _ => rfl) (fun a x l k y hx hy => by
  simp only [gl_spec_SheetSame_1, idx_nat, hy, Option.bind_some, s_FeatSame hx]
  by_cases e : x = y <;> simp [e]) (fun _ _ => rfl) (by unfold wL at h; omega) (fun x hx => by have := sum_mem (w := wFeat) hx; unfold wL at h; omega)
theorem i_EqFeat {a b : List Feat} (h : wL wFeat a ≤ 1048576) : gf_slices_EqualFunc_impl_Feat_impl_Feat_impl_Feat_impl_Feat__impl_FeatSame a b = some (decide (a = b)) := eqd_list (gl := gl_slices_EqualFunc_impl_Feat_impl_Feat_impl_Feat_impl_Feat__impl_FeatSame_1) (ok := fun x => wFeat x ≤ 1048576) (fun _ _ => rfl) (fun a x l k y hx hy => by
  simp only [gl_slices_EqualFunc_impl_Feat_impl_Feat_impl_Feat_impl_Feat__impl_FeatSame_1, idx_nat, hy, Option.bind_some, i_FeatSame hx]
  by_cases e : x = y <;> simp [e]) (fun _ _ => rfl) (by unfold wL at h; omega) (fun x hx => by have := sum_mem (w := wFeat) hx; unfold wL at h; omega)
theorem i_SheetSame {a b : List Feat} (h : wL wFeat a ≤ 1048576) : gf_impl_SheetSame a b = some (decide (a = b)) := by
  unfold gf_impl_SheetSame
  rw [i_EqFeat h]
  rfl
theorem s_sameCommit {a b : Commit} (h : wCommit a ≤ 1048576) : gf_spec_l7Same a b = some (decide (a = b)) := by
  unfold wCommit at h
  unfold gf_spec_l7Same
  rw [s_l7Ints (by unfold wL at h; omega), s_SheetSame (by omega), seq_dec]
  obtain ⟨i, s, t⟩ := a; obtain ⟨i2, s2, t2⟩ := b
  by_cases h1 : i = i2 <;> by_cases h2 : s = s2 <;> by_cases h3 : t = t2 <;> simp [h1, h2, h3]
theorem i_sameCommit {a b : Commit} (h : wCommit a ≤ 1048576) : gf_impl_sameCommit a b = some (decide (a = b)) := by
  unfold wCommit at h
  unfold gf_impl_sameCommit
  rw [i_EqInt (by unfold wL at h; omega), i_SheetSame (by omega), seq_dec]
  obtain ⟨i, s, t⟩ := a; obtain ⟨i2, s2, t2⟩ := b
  by_cases h1 : i = i2 <;> by_cases h2 : s = s2 <;> by_cases h3 : t = t2 <;> simp [h1, h2, h3]
theorem s_l7Find {r : Repo} {c : Commit} (h : wL wCommit r.commits ≤ 1048576) : gf_spec_l7Find r c = some (mFind r.commits c) := by
  unfold gf_spec_l7Find mFind
  rw [if_pos (fits_small (by unfold wL at h; omega))]
  exact loopF (gl := gl_spec_l7Find_1 c) (ok := fun x => wCommit x ≤ 1048576) (fun _ => rfl) (fun x l k hx => by simp only [gl_spec_l7Find_1, s_sameCommit hx, Option.bind_some]) _ 0 fun x hx => by have := sum_mem (w := wCommit) hx; unfold wL at h; omega
theorem i_Repo_commit {r : Repo} {c : Commit} (h : wL wCommit r.commits ≤ 1048576) : gf_impl_Repo_commit r c = some (mFind r.commits c) := by
  have key : gf_slices_IndexFunc_impl_Commit_impl_Commit__impl_Repo_commit_1 r.commits c = some (mFind r.commits c) := by
    unfold gf_slices_IndexFunc_impl_Commit_impl_Commit__impl_Repo_commit_1 mFind
    rw [if_pos (fits_small (by unfold wL at h; omega))]
    exact loopF (gl := gl_slices_IndexFunc_impl_Commit_impl_Commit__impl_Repo_commit_1_1 c) (ok := fun x => wCommit x ≤ 1048576) (fun _ => rfl) (fun x l k hx => by simp only [gl_slices_IndexFunc_impl_Commit_impl_Commit__impl_Repo_commit_1_1, gf_impl_Repo_commit_1, i_sameCommit hx, Option.bind_some]) _ 0 fun x hx => by have := sum_mem (w := wCommit) hx; unfold wL at h; omega
  unfold gf_impl_Repo_commit
  rw [key]
  rfl
theorem s_l7Head {r : Repo} {n : Str} (h : r.heads.length ≤ 1048576) : gf_spec_l7Head r n = some (mHead r.heads n) := by
  unfold gf_spec_l7Head mHead
  rw [if_pos (fits_small h)]
  exact loopF (gl := gl_spec_l7Head_1 n) (ok := fun _ => True) (fun _ => rfl) (fun x l k _ => by simp only [gl_spec_l7Head_1, seq_dec]) _ 0 fun _ _ => trivial
theorem i_Repo_head {r : Repo} {n : Str} (h : r.heads.length ≤ 1048576) : gf_impl_Repo_head r n = some (mHead r.heads n) := by
  have key : gf_slices_IndexFunc_impl_Head_impl_Head__impl_Repo_head_1 r.heads n = some (mHead r.heads n) := by
    unfold gf_slices_IndexFunc_impl_Head_impl_Head__impl_Repo_head_1 mHead
    rw [if_pos (fits_small h)]
    exact loopF (gl := gl_slices_IndexFunc_impl_Head_impl_Head__impl_Repo_head_1_1 n) (ok := fun _ => True) (fun _ => rfl) (fun x l k _ => by simp only [gl_slices_IndexFunc_impl_Head_impl_Head__impl_Repo_head_1_1, gf_impl_Repo_head_1, seq_dec, Option.bind_some]) _ 0 fun _ _ => trivial
  unfold gf_impl_Repo_head
  rw [key]
  rfl
theorem s_l7Up {up : List Int} {k : Nat} (h : up.length ≤ 1048576) : gf_spec_l7Up up (k : Int) = some (mUp up k) := by
  unfold gf_spec_l7Up mUp
  rw [if_pos (fits_small h), loopB (gl := gl_spec_l7Up_1 (k : Int)) (p := fun (x : Int) _ => decide (0 ≤ x) && decide (x < (k : Int))) (xs := up) (fun _ => rfl) (fun x l j _ => ?_) up 0 rfl]
  · generalize allFrom (fun (x : Int) _ => decide (0 ≤ x) && decide (x < (k : Int))) up 0 = A
    cases A
    · rfl
    · have e1 : decide ((k : Int) > 0) = decide (0 < k) := posI
      match up with
      | [] => cases e : decide (0 < k) <;> simp [e1, e]
      | [a] => cases e : decide (0 < k) <;> simp [e1, e]
      | [a, b] =>
        have i0 : idx [a, b] 0 = some a := rfl
        have i1 : idx [a, b] 1 = some b := rfl
        by_cases e2 : a = b
        · subst e2
          cases e : decide (0 < k) <;> simp [e1, e, i0, i1]
        · cases e : decide (0 < k) <;> simp [e1, e, i0, i1, e2]
      | a :: b :: c :: l =>
        have e2 : ¬ ((l.length : Int) + 1 + 1 + 1 ≤ 2) := by omega
        simp [e2]
  · have e1 : (x ≥ (k : Int)) ↔ ¬ x < (k : Int) := by omega
    have e2 : (x < 0) ↔ ¬ 0 ≤ x := by omega
    simp only [gl_spec_l7Up_1, e1, e2]
    by_cases h1 : 0 ≤ x <;> by_cases h2 : x < (k : Int) <;> simp [h1, h2]
theorem s_RepoOk {r : Repo} (h : wRepo r ≤ 1048576) : gf_spec_RepoOk r = some (mRepo r) := by
  unfold wRepo at h
  have hc : wL wCommit r.commits ≤ 1048576 := by omega
  have hh : wL wHead r.heads ≤ 1048576 := by omega
  have hcl : r.commits.length ≤ 1048576 := by unfold wL at hc; omega
  have hhl : r.heads.length ≤ 1048576 := by unfold wL at hh; omega
  have c1 : ((r.commits.length : Int) < 1) ↔ ¬ 1 ≤ r.commits.length := by omega
  have c2 : ((r.commits.length : Int) > 14) ↔ ¬ r.commits.length ≤ 14 := by omega
  have c3 : ((r.heads.length : Int) < 1) ↔ ¬ 1 ≤ r.heads.length := by omega
  have c4 : ((r.heads.length : Int) > 4) ↔ ¬ r.heads.length ≤ 4 := by omega
  have k1 : gl_spec_RepoOk_1 r r.commits 0 = some (if mCommits r.commits = true then .inr () else .inl false) := by
    refine loopB (gl := gl_spec_RepoOk_1 r) (p := fun c k => mUp c.up k && (mSheet c.sheet && (mWord c.note && decide (mFind r.commits c = (k : Int))))) (xs := r.commits) (fun _ => rfl) (fun x l k hd => ?_) r.commits 0 rfl
    have hx : x ∈ r.commits := List.mem_of_getElem? (drop_get hd)
    have hs := sum_mem (w := wCommit) hx
    have e0 : wCommit x = wL w0 x.up + (wL wFeat x.sheet + (x.note.size + 0)) := rfl
    have hs' : wCommit x ≤ 1048576 := by unfold wL at hc; omega
    have hu : x.up.length ≤ 1048576 := by have : wL w0 x.up = x.up.length + sumW w0 x.up := rfl; omega
    simp only [gl_spec_RepoOk_1, s_l7Up hu, s_SheetOk (fs := x.sheet) (by omega), s_WordOk (s := x.note) (by omega), s_l7Find hc, Option.bind_some]
    by_cases e : mFind r.commits x = (k : Int) <;> cases mUp x.up k <;> cases mSheet x.sheet <;> cases mWord x.note <;> simp [e]
  have k2 : gl_spec_RepoOk_2 r r.heads 0 = some (if mHeads r.commits.length r.heads = true then .inr () else .inl false) := by
    refine loopB (gl := gl_spec_RepoOk_2 r) (p := fun h k => mWord h.name && (decide (mHead r.heads h.name = (k : Int)) && (decide (0 ≤ h.at_) && decide (h.at_ < (r.commits.length : Int))))) (xs := r.heads) (fun _ => rfl) (fun x l k hd => ?_) r.heads 0 rfl
    have hx : x ∈ r.heads := List.mem_of_getElem? (drop_get hd)
    have hs := sum_mem (w := wHead) hx
    have e0 : wHead x = x.name.size + 0 := rfl
    have hs' : x.name.size ≤ 1048576 := by unfold wL at hh; omega
    have d1 : (x.at_ < 0) ↔ ¬ 0 ≤ x.at_ := by omega
    have d2 : (x.at_ ≥ (r.commits.length : Int)) ↔ ¬ x.at_ < (r.commits.length : Int) := by omega
    simp only [gl_spec_RepoOk_2, s_WordOk hs', s_l7Head hhl, Option.bind_some, d1, d2]
    by_cases e : mHead r.heads x.name = (k : Int) <;> by_cases e1 : 0 ≤ x.at_ <;> by_cases e2 : x.at_ < (r.commits.length : Int) <;> cases mWord x.name <;> simp [e, e1, e2]
  unfold gf_spec_RepoOk mRepo
  rw [k1, k2, if_pos (fits_small hcl), if_pos (fits_small hhl)]
  simp only [c1, c2, c3, c4]
  by_cases h1 : 1 ≤ r.commits.length <;> by_cases h2 : r.commits.length ≤ 14 <;> by_cases h3 : 1 ≤ r.heads.length <;> by_cases h4 : r.heads.length ≤ 4 <;> cases mCommits r.commits <;> cases mHeads r.commits.length r.heads <;> simp [h1, h2, h3, h4]
theorem i_version {r : Repo} {k : Int} (h : r.commits.length ≤ 1048576) : gf_impl_Repo_version r k = some (decide (0 ≤ k) && decide (k < (r.commits.length : Int))) := by
  unfold gf_impl_Repo_version
  rw [wrap_id (by omega) (by omega), i_within]
  have e : (k ≤ (r.commits.length : Int) - 1) ↔ k < (r.commits.length : Int) := by omega
  simp [e]
theorem i_Contains0 (x : Int) : gf_slices_Contains_int_int [] x = some false := rfl
theorem i_Contains1 (a x : Int) : gf_slices_Contains_int_int [a] x = some (decide (x = a)) := by
  have hf : fits 1 = true := fits_small (by omega)
  by_cases e : x = a
  · subst e
    simp [gf_slices_Contains_int_int, gf_slices_Index_int_int, hf, gl_slices_Index_int_int_1]
  · simp [gf_slices_Contains_int_int, gf_slices_Index_int_int, hf, gl_slices_Index_int_int_1, e]
theorem i_up5 {c : Commit} {k : Nat} (hk : k ≤ 1048576) (h : c.up.length ≤ 2) : gl_impl_RepoOk_5 k c c.up 0 = some (if (allFrom (fun (x : Int) _ => decide (0 ≤ x) && decide (x < (k : Int))) c.up 0 && decide (c.up[0]? = none ∨ c.up[0]? ≠ c.up[1]?)) = true then .inr () else .inl false) := by
  have hw : IntKind.i64.wrap ((k : Int) - 1) = (k : Int) - 1 := wrap_id (by omega) (by omega)
  have hi : ∀ x : Int, (x ≤ (k : Int) - 1) ↔ x < (k : Int) := fun x => by omega
  obtain ⟨up, sh, nt⟩ := c
  match up, h with
  | [], _ => rfl
  | [a], _ =>
    have s0 : slc [a] 0 ((0 : Nat) : Int) = some [] := by simp [slc]
    simp only [gl_impl_RepoOk_5, i_within, hw, hi, Option.bind_some, s0, i_Contains0, allFrom]
    by_cases h1 : 0 ≤ a <;> by_cases h2 : a < (k : Int) <;> simp [h1, h2]
  | [a, b], _ =>
    have s0 : slc [a, b] 0 ((0 : Nat) : Int) = some [] := by simp [slc]
    have s1 : slc [a, b] 0 ((0 + 1 : Nat) : Int) = some [a] := by simp [slc]
    simp only [gl_impl_RepoOk_5, i_within, hw, hi, Option.bind_some, s0, s1, i_Contains0, i_Contains1, allFrom]
    by_cases e : b = a
    · subst e
      by_cases h1 : 0 ≤ b <;> by_cases h2 : b < (k : Int) <;> simp [h1, h2]
    · have e' : ¬ a = b := fun h => e h.symm
      by_cases h1 : 0 ≤ a <;> by_cases h2 : a < (k : Int) <;> by_cases h3 : 0 ≤ b <;> by_cases h4 : b < (k : Int) <;> simp [h1, h2, h3, h4, e, e']
  | _ :: _ :: _ :: _, h => simp at h
theorem i_RepoOk {r : Repo} (h : wRepo r ≤ 1048576) : gf_impl_RepoOk r = some (mRepo r) := by
  unfold wRepo at h
  have hc : wL wCommit r.commits ≤ 1048576 := by omega
  have hh : wL wHead r.heads ≤ 1048576 := by omega
  have hcl : r.commits.length ≤ 1048576 := by unfold wL at hc; omega
  have hhl : r.heads.length ≤ 1048576 := by unfold wL at hh; omega
  have c1 : ((1 : Int) ≤ r.commits.length) ↔ 1 ≤ r.commits.length := by omega
  have c2 : ((r.commits.length : Int) ≤ 14) ↔ r.commits.length ≤ 14 := by omega
  have c3 : ((1 : Int) ≤ r.heads.length) ↔ 1 ≤ r.heads.length := by omega
  have c4 : ((r.heads.length : Int) ≤ 4) ↔ r.heads.length ≤ 4 := by omega
  have k1 : gl_impl_RepoOk_4 r r.commits 0 = some (if mCommits r.commits = true then .inr () else .inl false) := by
    refine loopB (gl := gl_impl_RepoOk_4 r) (p := fun c k => mUp c.up k && (mSheet c.sheet && (mWord c.note && decide (mFind r.commits c = (k : Int))))) (xs := r.commits) (fun _ => rfl) (fun x l k hd => ?_) r.commits 0 rfl
    have hx : x ∈ r.commits := List.mem_of_getElem? (drop_get hd)
    have hkl := drop_len hd
    have hs := sum_mem (w := wCommit) hx
    have e0 : wCommit x = wL w0 x.up + (wL wFeat x.sheet + (x.note.size + 0)) := rfl
    have hs' : wCommit x ≤ 1048576 := by unfold wL at hc; omega
    have hu : x.up.length ≤ 1048576 := by have : wL w0 x.up = x.up.length + sumW w0 x.up := rfl; omega
    have d1 : (((k : Int) == 0) == ((x.up.length : Int) == 0)) = (decide (0 < x.up.length) == decide (0 < k)) := by
      rw [zI, zI, posD, posD]
      cases decide (k = 0) <;> cases decide (x.up.length = 0) <;> rfl
    have d2 : ((x.up.length : Int) > 2) ↔ ¬ x.up.length ≤ 2 := by omega
    obtain ⟨B, hB⟩ : ∃ B, (decide (0 < x.up.length) == decide (0 < k)) = B := ⟨_, rfl⟩
    rw [hB] at d1
    simp only [gl_impl_RepoOk_4, i_SheetOk (fs := x.sheet) (by omega), i_WordOk (s := x.note) (by omega), i_Repo_commit hc, Option.bind_some, d1, d2, mUp, hB]
    clear d1 hB
    by_cases b : x.up.length ≤ 2
    · rw [i_up5 (by omega) b, if_pos (fits_small hu)]
      obtain ⟨D, hD⟩ : ∃ D, (decide (x.up[0]? = none ∨ x.up[0]? ≠ x.up[1]?)) = D := ⟨_, rfl⟩
      rw [hD]
      clear hD
      by_cases e : mFind r.commits x = (k : Int) <;> cases B <;> cases mSheet x.sheet <;> cases mWord x.note <;> cases allFrom (fun (x : Int) _ => decide (0 ≤ x) && decide (x < (k : Int))) x.up 0 <;> cases D <;> simp [e, b]
    · by_cases e : mFind r.commits x = (k : Int) <;> cases B <;> cases mSheet x.sheet <;> cases mWord x.note <;> simp [e, b]
  have k2 : gl_impl_RepoOk_6 r r.heads 0 = some (if mHeads r.commits.length r.heads = true then .inr () else .inl false) := by
    refine loopB (gl := gl_impl_RepoOk_6 r) (p := fun h k => mWord h.name && (decide (mHead r.heads h.name = (k : Int)) && (decide (0 ≤ h.at_) && decide (h.at_ < (r.commits.length : Int))))) (xs := r.heads) (fun _ => rfl) (fun x l k hd => ?_) r.heads 0 rfl
    have hx : x ∈ r.heads := List.mem_of_getElem? (drop_get hd)
    have hs := sum_mem (w := wHead) hx
    have e0 : wHead x = x.name.size + 0 := rfl
    have hs' : x.name.size ≤ 1048576 := by unfold wL at hh; omega
    simp only [gl_impl_RepoOk_6, i_WordOk hs', i_Repo_head hhl, i_version hcl, Option.bind_some]
    by_cases e : mHead r.heads x.name = (k : Int) <;> by_cases e1 : 0 ≤ x.at_ <;> by_cases e2 : x.at_ < (r.commits.length : Int) <;> cases mWord x.name <;> simp [e, e1, e2]
  unfold gf_impl_RepoOk mRepo
  rw [k1, k2, if_pos (fits_small hcl), if_pos (fits_small hhl), i_within, i_within]
  simp only [c1, c2, c3, c4, Option.bind_some]
  by_cases h1 : 1 ≤ r.commits.length <;> by_cases h2 : r.commits.length ≤ 14 <;> by_cases h3 : 1 ≤ r.heads.length <;> by_cases h4 : r.heads.length ≤ 4 <;> cases mCommits r.commits <;> cases mHeads r.commits.length r.heads <;> simp [h1, h2, h3, h4]

theorem s_l7In {r : Repo} {k : Int} (h : wRepo r ≤ 1048576) : gf_spec_l7In r k = some (mRepo r && (decide (0 ≤ k) && decide (k < (r.commits.length : Int)))) := by
  unfold gf_spec_l7In
  rw [s_RepoOk h]
  by_cases h1 : 0 ≤ k <;> cases mRepo r <;> simp [h1]
theorem rep_get {n j : Nat} : (List.replicate n false)[j]? ≠ some true := by
  rw [List.getElem?_replicate]
  split <;> simp
theorem marks_init {cs : List Commit} {F : List Nat} (hF : ∀ f ∈ F, f < cs.length) : Marks cs F cs.length (setAll (List.replicate cs.length false) (F.map fun (f : Nat) => (f : Int))) where
  len := by rw [setAll_len, List.length_replicate]
  snd := fun j hj => by
    rcases setAll_get.1 hj with hj | ⟨_, u, hu, rfl⟩
    · exact absurd hj rep_get
    · obtain ⟨f, hf, rfl⟩ := List.mem_map.1 hu
      exact ⟨f, hf, .refl f⟩
  frm := fun f hf => setAll_get.2 (.inr ⟨by rw [List.length_replicate]; exact hF f hf, f, List.mem_map.2 ⟨f, hf, rfl⟩, rfl⟩)
  cl := fun j x u hj hb hx hu => by
    have := get_lt hx
    omega
theorem s_l7Marks_1 : ∀ (l : List Int) (k : Nat) (m : List Bool), (∀ u ∈ l, 0 ≤ u ∧ u < (m.length : Int)) → gl_spec_l7Marks_1 l k m = some (setAll m l)
  | [], k, m, h => rfl
  | u :: l, k, m, h => by
    have hu := h u (by simp)
    obtain ⟨b, hb⟩ := getI (xs := m) (i := u.toNat) (by omega)
    simp only [gl_spec_l7Marks_1, idx_int hu.1, hb, Option.bind_some]
    exact s_l7Marks_1 l (k + 1) _ fun v hv => by
      rw [List.length_set]
      exact h v (by simp [hv])
theorem s_l7Marks_6 {r : Repo} {v : Nat} {x : Commit} (hx : r.commits[v]? = some x) (hu : ∀ u ∈ x.up, 0 ≤ u ∧ u < (v : Int)) (h2 : x.up.length ≤ 2) : ∀ (l : List Int) (j n : Nat) (m : List Bool), x.up.drop j = l → l.length < n → m[v]? = some true → gl_spec_l7Marks_6 r (v : Int) n (j : Int) m = some (setAll m l)
  | _, _, 0, _, _, h, _ => by omega
  | [], j, n + 1, m, h, hn, hm => by
    simp only [gl_spec_l7Marks_6, idx_nat, hx, Option.bind_some, drop_ge h]
    rfl
  | u :: l, j, n + 1, m, h, hn, hm => by
    have hue := drop_get h
    have hul := hu u (List.mem_of_getElem? hue)
    have hvl := get_lt hm
    obtain ⟨b, hb⟩ := getI (xs := m) (i := u.toNat) (by omega)
    have hjl := drop_len h
    have hw : IntKind.i64.wrap ((j : Int) + 1) = ((j + 1 : Nat) : Int) := by rw [wrap_id (by omega) (by omega)]; omega
    simp only [gl_spec_l7Marks_6, idx_nat, hx, Option.bind_some, drop_lt h, hm, hue, idx_int hul.1, hb, if_true, hw]
    exact s_l7Marks_6 hx hu h2 l (j + 1) n _ (drop_next h) (by simp at hn; omega) (by rw [List.getElem?_set_ne (by omega)]; exact hm)
theorem s_l7Marks_6f {r : Repo} {v n : Nat} {x : Commit} {m : List Bool} (hx : r.commits[v]? = some x) (hm : m[v]? = some false) : gl_spec_l7Marks_6 r (v : Int) (n + 1) 0 m = some m := by
  simp only [gl_spec_l7Marks_6, idx_nat, hx, Option.bind_some, hm]
  split
  · rfl
  · rfl
theorem s_l7Marks_5 {r : Repo} {F : List Nat} (hc : Hist r.commits) : ∀ (k n : Nat) (m : List Bool), k < n → k ≤ r.commits.length → k ≤ 1048576 → Marks r.commits F k m → gl_spec_l7Marks_5 r n ((k : Int) - 1) m = some (mark r.commits F)
  | _, 0, _, h, _, _, _ => by omega
  | 0, n + 1, m, _, _, _, h => by
    rw [h.fin]
    rfl
  | k + 1, n + 1, m, hn, hk, hb, h => by
    obtain ⟨x, hx⟩ := getI (xs := r.commits) (i := k) (by omega)
    obtain ⟨b, hb2⟩ := getI (xs := m) (i := k) (by rw [h.len]; omega)
    have e1 : (((k + 1 : Nat) : Int) - 1) = (k : Int) := by omega
    have hw : IntKind.i64.wrap ((k : Int) - 1) = (k : Int) - 1 := wrap_id (by omega) (by omega)
    have hge : decide ((k : Int) ≥ 0) = true := decide_eq_true (by omega)
    have hr : rounds = 4194303 + 1 := rfl
    rw [e1]
    simp only [gl_spec_l7Marks_5, hge, if_true, hw]
    cases b
    · rw [hr, s_l7Marks_6f hx hb2]
      exact s_l7Marks_5 hc k n m (by omega) (by omega) (by omega) (h.skip (by rw [hb2]; simp))
    · have h2 := hc.two x (List.mem_of_getElem? hx)
      have := s_l7Marks_6 hx (hc.lt k x hx) h2 x.up 0 rounds m rfl (by rw [hr]; omega) hb2
      simp only [Int.ofNat_zero, Int.natCast_zero] at this
      rw [this]
      exact s_l7Marks_5 hc k n _ (by omega) (by omega) (by omega) (h.step hc hb2 hx)
theorem s_l7Marks {r : Repo} {F : List Nat} (hc : Hist r.commits) (hl : r.commits.length ≤ 1048576) (hF : ∀ f ∈ F, f < r.commits.length) (hFl : F.length ≤ 1048576) : gf_spec_l7Marks r (F.map fun (f : Nat) => (f : Int)) = some (mark r.commits F) := by
  have hr : rounds = 4194303 + 1 := rfl
  unfold gf_spec_l7Marks
  rw [if_pos (by simp [fits_small hl]), if_pos (fits_small (by simpa using hFl)), Int.toNat_natCast, s_l7Marks_1 _ _ _ (fun u hu => by
    obtain ⟨f, hf, rfl⟩ := List.mem_map.1 hu
    have := hF f hf
    rw [List.length_replicate]
    omega), wrap_id (by omega) (by omega)]
  simp only [Option.bind_some]
  rw [s_l7Marks_5 hc r.commits.length rounds _ (by rw [hr]; omega) (Nat.le_refl _) hl (marks_init hF)]
  rfl
theorem s_l7Marks1 {r : Repo} {k : Nat} (hc : Hist r.commits) (hl : r.commits.length ≤ 1048576) (hk : k < r.commits.length) : gf_spec_l7Marks r [(k : Int)] = some (mark r.commits [k]) := by
  have := s_l7Marks (r := r) (F := [k]) hc hl (by simpa using hk) (by simp)
  simpa using this
theorem i_past_5 : ∀ (l : List Int) (k : Nat) (m : List Bool), (∀ u ∈ l, 0 ≤ u ∧ u < (m.length : Int)) → gl_impl_Repo_past_5 l k m = some (setAll m l)
  | [], k, m, h => rfl
  | u :: l, k, m, h => by
    have hu := h u (by simp)
    obtain ⟨b, hb⟩ := getI (xs := m) (i := u.toNat) (by omega)
    simp only [gl_impl_Repo_past_5, idx_int hu.1, hb, Option.bind_some]
    exact i_past_5 l (k + 1) _ fun v hv => by
      rw [List.length_set]
      exact h v (by simp [hv])
theorem i_past_4 {r : Repo} {F : List Nat} (hc : Hist r.commits) : ∀ (k n : Nat) (m : List Bool), k < n → k ≤ r.commits.length → k ≤ 1048576 → Marks r.commits F k m → gl_impl_Repo_past_4 r n ((k : Int) - 1) m = some (mark r.commits F)
  | _, 0, _, h, _, _, _ => by omega
  | 0, n + 1, m, _, _, _, h => by
    rw [h.fin]
    rfl
  | k + 1, n + 1, m, hn, hk, hb, h => by
    obtain ⟨x, hx⟩ := getI (xs := r.commits) (i := k) (by omega)
    obtain ⟨b, hb2⟩ := getI (xs := m) (i := k) (by rw [h.len]; omega)
    have e1 : (((k + 1 : Nat) : Int) - 1) = (k : Int) := by omega
    have hw : IntKind.i64.wrap ((k : Int) - 1) = (k : Int) - 1 := wrap_id (by omega) (by omega)
    have hge : decide ((k : Int) ≥ 0) = true := decide_eq_true (by omega)
    rw [e1]
    simp only [gl_impl_Repo_past_4, hge, if_true, hw, idx_nat, hb2, Option.bind_some]
    cases b
    · exact i_past_4 hc k n m (by omega) (by omega) (by omega) (h.skip (by rw [hb2]; simp))
    · have h2 := hc.two x (List.mem_of_getElem? hx)
      simp only [hx, if_true, Option.bind_some]
      rw [if_pos (fits_small (by omega)), i_past_5 x.up 0 m (fun u hu => by
        have := hc.lt k x hx u hu
        rw [h.len]
        omega)]
      exact i_past_4 hc k n _ (by omega) (by omega) (by omega) (h.step hc hb2 hx)
theorem i_past {r : Repo} {k : Nat} (hc : Hist r.commits) (hl : r.commits.length ≤ 1048576) (hk : k < r.commits.length) : gf_impl_Repo_past r (k : Int) = some (mark r.commits [k]) := by
  have hr : rounds = 4194303 + 1 := rfl
  have h0 : (List.replicate r.commits.length false)[k]? = some false := by rw [List.getElem?_replicate, if_pos hk]
  have hm : Marks r.commits [k] (k + 1) ((List.replicate r.commits.length false).set k true) := by
    have := marks_init (cs := r.commits) (F := [k]) (by simpa using hk)
    exact marks_above hc (by simpa [setAll] using this) (by simp) (by omega)
  have e1 : (((k + 1 : Nat) : Int) - 1) = (k : Int) := by omega
  have := i_past_4 hc (k + 1) rounds _ (by rw [hr]; omega) (by omega) (by omega) hm
  rw [e1] at this
  unfold gf_impl_Repo_past
  rw [if_pos (by simp [fits_small hl])]
  simp only [Int.toNat_natCast, idx_nat, h0, Option.bind_some, this]
theorem s_RepoBases_5 {r : Repo} {v : Nat} {x : Commit} (hx : r.commits[v]? = some x) (h2 : x.up.length ≤ 2) : ∀ (l : List Int) (j n : Nat) (m : List Bool), x.up.drop j = l → l.length < n → (∀ u ∈ l, 0 ≤ u ∧ u < (m.length : Int)) → gl_spec_RepoBases_5 r (v : Int) n (j : Int) m = some (setAll m l)
  | _, _, 0, _, _, h, _ => by omega
  | [], j, n + 1, m, h, hn, hm => by
    simp only [gl_spec_RepoBases_5, idx_nat, hx, Option.bind_some, drop_ge h]
    rfl
  | u :: l, j, n + 1, m, h, hn, hm => by
    have hue := drop_get h
    have hul := hm u (by simp)
    obtain ⟨b, hb⟩ := getI (xs := m) (i := u.toNat) (by omega)
    have hjl := drop_len h
    have hw : IntKind.i64.wrap ((j : Int) + 1) = ((j + 1 : Nat) : Int) := by rw [wrap_id (by omega) (by omega)]; omega
    simp only [gl_spec_RepoBases_5, idx_nat, hx, Option.bind_some, drop_lt h, hue, idx_int hul.1, hb, if_true, hw]
    exact s_RepoBases_5 hx h2 l (j + 1) n _ (drop_next h) (by simp at hn; omega) (fun v hv => by rw [List.length_set]; exact hm v (by simp [hv]))
open Classical in
theorem s_RepoBases_4 {r : Repo} {a b : Nat} (hc : Hist r.commits) : ∀ (k n : Nat) (out : List Int) (d : List Bool), k < n → k ≤ r.commits.length → k ≤ 1048576 → out.length + k ≤ 1048576 → d.length = r.commits.length → (∀ j, j < k → (d[j]? = some true ↔ ∃ c x u, k ≤ c ∧ Com r.commits a b c ∧ r.commits[c]? = some x ∧ u ∈ x.up ∧ j = u.toNat)) → gl_spec_RepoBases_4 (mark r.commits [a]) (mark r.commits [b]) r n ((k : Int) - 1) out d = some (out ++ downF (fun k => decide (Base r.commits a b k)) k)
  | _, 0, _, _, h, _, _, _, _, _ => by omega
  | 0, n + 1, out, d, _, _, _, _, _, _ => by
    simp only [downF, List.append_nil]
    rfl
  | k + 1, n + 1, out, d, hn, hk, hb, ho, hd, hi => by
    obtain ⟨x, hx⟩ := getI (xs := r.commits) (i := k) (by omega)
    obtain ⟨bd, hbd⟩ := getI (xs := d) (i := k) (by omega)
    have e1 : (((k + 1 : Nat) : Int) - 1) = (k : Int) := by omega
    have hw : IntKind.i64.wrap ((k : Int) - 1) = (k : Int) - 1 := wrap_id (by omega) (by omega)
    have hge : decide ((k : Int) ≥ 0) = true := decide_eq_true (by omega)
    have h2 := hc.two x (List.mem_of_getElem? hx)
    have hr : rounds = 4194303 + 1 := rfl
    have skip : ¬ Com r.commits a b k → gl_spec_RepoBases_4 (mark r.commits [a]) (mark r.commits [b]) r n ((k : Int) - 1) out d = some (out ++ downF (fun k => decide (Base r.commits a b k)) (k + 1)) := fun hnc => by
      have hnb : ¬ Base r.commits a b k := fun h => hnc h.1
      rw [s_RepoBases_4 hc k n out d (by omega) (by omega) (by omega) (by omega) hd fun j hj => ?_]
      · simp [downF, hnb]
      · rw [hi j (by omega)]
        constructor
        · rintro ⟨c, y, u, h1, h3⟩
          exact ⟨c, y, u, by omega, h3⟩
        · rintro ⟨c, y, u, h1, h3⟩
          rcases Nat.eq_or_lt_of_le h1 with rfl | h1
          · exact absurd h3.1 hnc
          · exact ⟨c, y, u, h1, h3⟩
    rw [e1]
    simp only [gl_spec_RepoBases_4, hge, if_true, hw, idx_nat, mark1_get (show k < r.commits.length by omega), hbd, Option.bind_some]
    by_cases h1 : Anc r.commits a k
    · by_cases h3 : Anc r.commits b k
      · have hcom : Com r.commits a b k := ⟨h1, h3⟩
        have hdb : bd = true ↔ ¬ Base r.commits a b k := by
          rw [← not_base' hc hcom]
          have := hi k (by omega)
          rw [hbd] at this
          simp only [Option.some.injEq] at this
          rw [this]
          constructor
          · rintro ⟨c, y, u, _, h⟩
            exact ⟨c, y, u, h⟩
          · rintro ⟨c, y, u, h4, h5, h6, h7⟩
            have := hc.lt _ _ h5 _ h6
            exact ⟨c, y, u, by omega, h4, h5, h6, h7⟩
        have hstep : gl_spec_RepoBases_5 r (k : Int) rounds 0 d = some (setAll d x.up) := by
          have := s_RepoBases_5 hx h2 x.up 0 rounds d rfl (by rw [hr]; omega) (fun u hu => by have := hc.lt k x hx u hu; omega)
          simpa using this
        have ih : ∀ out', out'.length + k ≤ 1048576 → gl_spec_RepoBases_4 (mark r.commits [a]) (mark r.commits [b]) r n ((k : Int) - 1) out' (setAll d x.up) = some (out' ++ downF (fun k => decide (Base r.commits a b k)) k) := fun out' ho' => by
          refine s_RepoBases_4 hc k n out' _ (by omega) (by omega) (by omega) ho' (by rw [setAll_len, hd]) fun j hj => ?_
          rw [setAll_get, hi j (by omega)]
          constructor
          · rintro (⟨c, y, u, h4, h5⟩ | ⟨_, u, h4, rfl⟩)
            · exact ⟨c, y, u, by omega, h5⟩
            · exact ⟨k, x, u, Nat.le_refl _, hcom, hx, h4, rfl⟩
          · rintro ⟨c, y, u, h4, h5, h6, h7, h8⟩
            rcases Nat.eq_or_lt_of_le h4 with rfl | h4
            · rw [hx] at h6
              cases h6
              exact .inr ⟨by omega, u, h7, h8.symm⟩
            · exact .inl ⟨c, y, u, h4, h5, h6, h7, h8⟩
        simp only [h1, h3, decide_true, Bool.not_true, hstep, Option.bind_some]
        cases bd
        · have hbase : Base r.commits a b k := Classical.byContradiction fun h => by simpa using hdb.2 h
          simp only [Bool.not_false, if_true]
          rw [if_neg (by decide), if_neg (by decide), if_pos (fits_small (by simp; omega))]
          simp only [Option.bind_some]
          rw [ih _ (by simp; omega)]
          simp [downF, hbase]
        · have hbase : ¬ Base r.commits a b k := hdb.1 rfl
          simp only [Bool.not_true]
          rw [if_neg (by decide), if_neg (by decide), if_neg (by decide)]
          simp only [Option.bind_some]
          rw [ih _ (by omega)]
          simp [downF, hbase]
      · simp only [h1, h3, decide_true, decide_false, Bool.not_true, Bool.not_false]
        rw [if_neg (by decide), if_pos trivial]
        exact skip fun h => h3 h.2
    · simp only [h1, decide_false, Bool.not_false, if_true]
      exact skip fun h => h1 h.1
def inR (r : Repo) (k : Int) : Bool := mRepo r && (decide (0 ≤ k) && decide (k < (r.commits.length : Int)))
theorem inR_at {r : Repo} {k : Int} (h : inR r k = true) : mRepo r = true ∧ ∃ n : Nat, k = (n : Int) ∧ n < r.commits.length := by
  unfold inR at h
  simp only [Bool.and_eq_true, decide_eq_true_eq] at h
  exact ⟨h.1, k.toNat, by omega, by omega⟩
theorem s_RepoBases {r : Repo} {a b : Int} (hw : wRepo r ≤ 1048576) : gf_spec_RepoBases r a b = some (if (inR r a && inR r b) = true then mBases r.commits a.toNat b.toNat else []) := by
  unfold gf_spec_RepoBases
  rw [s_l7In hw, s_l7In hw]
  by_cases h1 : inR r a = true
  · by_cases h2 : inR r b = true
    · obtain ⟨hr, i, rfl, hi⟩ := inR_at h1
      obtain ⟨_, j, rfl, hj⟩ := inR_at h2
      have hc := repo_hist hr
      have hl := (repo_len hr).1.2
      have hrd : rounds = 4194303 + 1 := rfl
      rw [h1, h2]
      simp only [inR] at h1 h2
      rw [h1, h2, s_l7Marks1 hc (by omega) hi, s_l7Marks1 hc (by omega) hj]
      simp only [Option.bind_some, Bool.not_true, if_true]
      rw [if_neg (by decide), if_neg (by decide), if_pos (by simp [fits_small (n := r.commits.length) (by omega)]), wrap_id (by omega) (by omega), Int.toNat_natCast, s_RepoBases_4 hc r.commits.length rounds [] _ (by rw [hrd]; omega) (Nat.le_refl _) (by omega) (by simp; omega) (by simp) (fun k hk => ?_)]
      · rfl
      · constructor
        · exact fun h => absurd h rep_get
        · rintro ⟨c, x, u, h3, h4, h5, _⟩
          have := get_lt h5
          omega
    · have h2' := h2
      simp only [inR] at h1 h2'
      rw [h1]
      simp only [Bool.not_eq_true] at h2'
      rw [h2']
      simp [h2]
  · have h1' := h1
    simp only [inR, Bool.not_eq_true] at h1'
    rw [h1']
    simp [h1]
open Classical in
theorem i_Contains {r : Repo} (hc : Hist r.commits) (hl : r.commits.length ≤ 1048576) {k : Nat} (hk : k < r.commits.length) {out : List Int} (ho : ∀ u ∈ out, ∃ j : Nat, u = (j : Int) ∧ j < r.commits.length) (hlen : out.length ≤ 1048576) : gf_slices_ContainsFunc_int_int__impl_RepoBases_1 out r (k : Int) = some (decide (∃ j : Nat, (j : Int) ∈ out ∧ Anc r.commits j k)) := by
  have key0 : gf_slices_IndexFunc_int_int__impl_RepoBases_1 out r (k : Int) = some (fstFrom (fun u => decide (Anc r.commits u.toNat k)) out 0) := by
    unfold gf_slices_IndexFunc_int_int__impl_RepoBases_1
    rw [if_pos (fits_small hlen)]
    exact loopF (gl := gl_slices_IndexFunc_int_int__impl_RepoBases_1_1 r (k : Int)) (p := fun u => decide (Anc r.commits u.toNat k)) (ok := fun u => ∃ j : Nat, u = (j : Int) ∧ j < r.commits.length) (fun _ => rfl) (fun u l i hu => by
      obtain ⟨j, rfl, hj⟩ := hu
      simp only [gl_slices_IndexFunc_int_int__impl_RepoBases_1_1, gf_impl_RepoBases_1, i_past hc hl hj, Option.bind_some, idx_nat, mark1_get hk, Int.toNat_natCast]) out 0 ho
  unfold gf_slices_ContainsFunc_int_int__impl_RepoBases_1
  rw [key0]
  · simp only [Option.bind_some, Option.some.injEq]
    have key : ∀ (l : List Int) (i : Nat), (∀ u ∈ l, ∃ j : Nat, u = (j : Int) ∧ j < r.commits.length) → (fstFrom (fun u => decide (Anc r.commits u.toNat k)) l i ≥ 0 ↔ ∃ j : Nat, (j : Int) ∈ l ∧ Anc r.commits j k) := fun l => by
      induction l with
      | nil => intro i _; simp [fstFrom]
      | cons u l ih =>
        intro i hl
        obtain ⟨j, rfl, hj⟩ := hl u (by simp)
        simp only [fstFrom, Int.toNat_natCast]
        by_cases hp : Anc r.commits j k
        · rw [if_pos (by simpa using hp)]
          exact ⟨fun _ => ⟨j, by simp, hp⟩, fun _ => by omega⟩
        · rw [if_neg (by simpa using hp), ih (i + 1) fun u hu => hl u (by simp [hu])]
          constructor
          · rintro ⟨j', h1, h2⟩
            exact ⟨j', by simp [h1], h2⟩
          · rintro ⟨j', h1, h2⟩
            rcases List.mem_cons.1 h1 with h1 | h1
            · have : j' = j := by omega
              subst this
              exact absurd h2 hp
            · exact ⟨j', h1, h2⟩
    exact decide_eq_decide.2 (key out 0 ho)
open Classical in
theorem i_RepoBases_1 {r : Repo} {a b : Nat} (hc : Hist r.commits) (hl : r.commits.length ≤ 1048576) : ∀ (k n : Nat) (out : List Int), k < n → k ≤ r.commits.length → out.length + k ≤ 1048576 → (∀ u, u ∈ out ↔ ∃ j : Nat, u = (j : Int) ∧ k ≤ j ∧ Base r.commits a b j ∧ j < r.commits.length) → gl_impl_RepoBases_1 (mark r.commits [a]) (mark r.commits [b]) r n out ((k : Int) - 1) = some (out ++ downF (fun k => decide (Base r.commits a b k)) k)
  | _, 0, _, h, _, _, _ => by omega
  | 0, n + 1, out, _, _, _, _ => by
    simp only [downF, List.append_nil]
    rfl
  | k + 1, n + 1, out, hn, hk, ho, hi => by
    have e1 : (((k + 1 : Nat) : Int) - 1) = (k : Int) := by omega
    have hw : IntKind.i64.wrap ((k : Int) - 1) = (k : Int) - 1 := wrap_id (by omega) (by omega)
    have hge : decide ((k : Int) ≥ 0) = true := decide_eq_true (by omega)
    have skip : ¬ Base r.commits a b k → gl_impl_RepoBases_1 (mark r.commits [a]) (mark r.commits [b]) r n out ((k : Int) - 1) = some (out ++ downF (fun k => decide (Base r.commits a b k)) (k + 1)) := fun hnb => by
      rw [i_RepoBases_1 hc hl k n out (by omega) (by omega) (by omega) fun u => ?_]
      · simp [downF, hnb]
      · rw [hi u]
        constructor
        · rintro ⟨j, h1, h2, h3⟩
          exact ⟨j, h1, by omega, h3⟩
        · rintro ⟨j, h1, h2, h3⟩
          rcases Nat.eq_or_lt_of_le h2 with rfl | h2
          · exact absurd h3.1 hnb
          · exact ⟨j, h1, h2, h3⟩
    have take : Base r.commits a b k → gl_impl_RepoBases_1 (mark r.commits [a]) (mark r.commits [b]) r n (out ++ [(k : Int)]) ((k : Int) - 1) = some (out ++ downF (fun k => decide (Base r.commits a b k)) (k + 1)) := fun hb => by
      rw [i_RepoBases_1 hc hl k n _ (by omega) (by omega) (by simp; omega) fun u => ?_]
      · simp [downF, hb]
      · rw [List.mem_append, hi u, List.mem_singleton]
        constructor
        · rintro (⟨j, h1, h2, h3⟩ | rfl)
          · exact ⟨j, h1, by omega, h3⟩
          · exact ⟨k, rfl, Nat.le_refl _, hb, by omega⟩
        · rintro ⟨j, h1, h2, h3⟩
          rcases Nat.eq_or_lt_of_le h2 with rfl | h2
          · exact .inr h1
          · exact .inl ⟨j, h1, h2, h3⟩
    rw [e1]
    simp only [gl_impl_RepoBases_1, hge, if_true, hw, idx_nat, mark1_get (show k < r.commits.length by omega), Option.bind_some]
    by_cases h1 : Anc r.commits a k
    · by_cases h3 : Anc r.commits b k
      · have hcom : Com r.commits a b k := ⟨h1, h3⟩
        rw [i_Contains hc hl (by omega) (fun u hu => by
          obtain ⟨j, h4, _, _, h5⟩ := (hi u).1 hu
          exact ⟨j, h4, h5⟩) (by omega)]
        have hct : (∃ j : Nat, (j : Int) ∈ out ∧ Anc r.commits j k) ↔ ¬ Base r.commits a b k := by
          rw [← not_base hc hcom]
          constructor
          · rintro ⟨j, h4, h5⟩
            obtain ⟨j', h6, h7, h8, h9⟩ := (hi _).1 h4
            have : j = j' := by omega
            subst this
            exact ⟨j, by omega, h8, h5⟩
          · rintro ⟨j, h4, h5, h6⟩
            refine ⟨j, (hi _).2 ⟨j, rfl, by omega, h5, ?_⟩, h6⟩
            rcases h6.last with rfl | ⟨c, x, u, h7, h8, _⟩
            · omega
            · rcases Nat.lt_or_ge j r.commits.length with h | h
              · exact h
              · exfalso
                have : ∀ p q, Anc r.commits p q → r.commits.length ≤ p → q = p := fun p q hpq hp => by
                  induction hpq with
                  | refl => rfl
                  | up ha hx hu ih =>
                    have := get_lt hx
                    omega
                have := this j k h6 h
                omega
        simp only [h1, h3, decide_true, Bool.not_true, Option.bind_some]
        rw [if_neg (by decide), if_neg (by decide)]
        by_cases hb : Base r.commits a b k
        · have hf : decide (∃ j : Nat, (j : Int) ∈ out ∧ Anc r.commits j k) = false := decide_eq_false fun h => hct.1 h hb
          rw [hf]
          simp only [Bool.not_false, if_true]
          rw [if_pos (fits_small (by simp; omega))]
          exact take hb
        · have hf : decide (∃ j : Nat, (j : Int) ∈ out ∧ Anc r.commits j k) = true := decide_eq_true (hct.2 hb)
          rw [hf]
          simp only [Bool.not_true]
          rw [if_neg (by decide)]
          exact skip hb
      · simp only [h1, h3, decide_true, decide_false, Bool.not_true, Bool.not_false]
        rw [if_neg (by decide), if_pos trivial]
        exact skip fun h => h3 h.1.2
    · simp only [h1, decide_false, Bool.not_false, if_true]
      exact skip fun h => h1 h.1.1
theorem i_RepoBases {r : Repo} {a b : Int} (hw : wRepo r ≤ 1048576) : gf_impl_RepoBases r a b = some (if (inR r a && inR r b) = true then mBases r.commits a.toNat b.toNat else []) := by
  have hla : r.commits.length ≤ 1048576 := by unfold wRepo wL at hw; omega
  unfold gf_impl_RepoBases
  rw [i_RepoOk hw, i_version hla, i_version hla]
  by_cases h1 : inR r a = true
  · by_cases h2 : inR r b = true
    · obtain ⟨hr, i, rfl, hi⟩ := inR_at h1
      obtain ⟨_, j, rfl, hj⟩ := inR_at h2
      have hc := repo_hist hr
      have hl := (repo_len hr).1.2
      have hrd : rounds = 4194303 + 1 := rfl
      rw [h1, h2, hr]
      simp only [Option.bind_some, Bool.not_true, i_past hc hla hi, i_past hc hla hj, mark_len]
      have e1 : (decide ((0 : Int) ≤ (i : Int)) && decide ((i : Int) < (r.commits.length : Int))) = true := by simp; omega
      have e2 : (decide ((0 : Int) ≤ (j : Int)) && decide ((j : Int) < (r.commits.length : Int))) = true := by simp; omega
      rw [e1, e2]
      simp only [Bool.not_true, Bool.and_true, if_true]
      rw [if_neg (by decide), if_neg (by decide), if_neg (by decide), wrap_id (by omega) (by omega), i_RepoBases_1 hc hla r.commits.length rounds [] (by rw [hrd]; omega) (Nat.le_refl _) (by simp; omega) (fun u => ?_)]
      · rfl
      · constructor
        · intro h; cases h
        · rintro ⟨j, _, h3, _, h4⟩
          omega
    · rw [h1]
      unfold inR at h1 h2
      simp only [Bool.and_eq_true] at h1
      simp only [h1.1, h1.2, Bool.true_and, Bool.not_eq_true] at h2
      simp only [h1.1, h2, inR]
      simp only [h1.2]
      simp
  · unfold inR at h1
    by_cases hr : mRepo r = true
    · simp only [hr, Bool.true_and, Bool.not_eq_true] at h1
      simp [hr, h1, inR]
    · simp [hr, inR]
noncomputable def mJoinBase (r : Repo) (a b : Int) : Int := ((if (inR r a && inR r b) = true then mBases r.commits a.toNat b.toNat else []).head?).getD (-1)
theorem s_JoinBase {r : Repo} {a b : Int} (hw : wRepo r ≤ 1048576) : gf_spec_JoinBase r a b = some (mJoinBase r a b) := by
  unfold gf_spec_JoinBase mJoinBase
  rw [s_RepoBases hw]
  simp only [Option.bind_some]
  generalize (if (inR r a && inR r b) = true then mBases r.commits a.toNat b.toNat else []) = l
  cases l with
  | nil => rfl
  | cons x l =>
    rw [if_neg (by simp; omega)]
    rfl
theorem i_JoinBase {r : Repo} {a b : Int} (hw : wRepo r ≤ 1048576) : gf_impl_JoinBase r a b = some (mJoinBase r a b) := by
  unfold gf_impl_JoinBase mJoinBase
  rw [i_RepoBases hw]
  simp only [Option.bind_some]
  generalize (if (inR r a && inR r b) = true then mBases r.commits a.toNat b.toNat else []) = l
  cases l with
  | nil => rfl
  | cons x l =>
    rw [if_neg (by simp; omega)]
    rfl
theorem fst_cases {α : Type} {p : α → Bool} : ∀ {l : List α} {k : Nat}, fstFrom p l k = -1 ∨ ∃ j x, fstFrom p l k = ((k + j : Nat) : Int) ∧ l[j]? = some x ∧ p x = true
  | [], k => .inl rfl
  | x :: l, k => by
    simp only [fstFrom]
    by_cases h : p x = true
    · rw [if_pos h]
      exact .inr ⟨0, x, rfl, rfl, h⟩
    · rw [if_neg h]
      rcases fst_cases (p := p) (l := l) (k := k + 1) with h1 | ⟨j, y, h1, h2, h3⟩
      · exact .inl h1
      · exact .inr ⟨j + 1, y, by rw [h1]; congr 1; omega, by simpa using h2, h3⟩
theorem head_at {r : Repo} (hr : mRepo r = true) (n : Str) : mHead r.heads n = -1 ∨ ∃ (k a : Nat) (h : Head), mHead r.heads n = (k : Int) ∧ r.heads[k]? = some h ∧ h.name = n ∧ h.at_ = (a : Int) ∧ a < r.commits.length := by
  rcases fst_cases (p := fun x : Head => decide (x.name = n)) (l := r.heads) (k := 0) with h | ⟨j, x, h1, h2, h3⟩
  · exact .inl h
  · refine .inr ⟨j, x.at_.toNat, x, by unfold mHead; rw [h1]; simp, h2, by simpa using h3, ?_⟩
    unfold mRepo at hr
    simp only [Bool.and_eq_true] at hr
    have := allFrom_get hr.2.2.2.2.2 j x h2
    simp only [Bool.and_eq_true, decide_eq_true_eq] at this
    omega
/-- Where a branch is. -/
def mRepoAt (r : Repo) (n : Str) : Int := if mRepo r = true then (match idx r.heads (mHead r.heads n) with | some h => h.at_ | none => -1) else -1
theorem repoAt_cases (r : Repo) (n : Str) : (mRepoAt r n = -1 ∧ (mRepo r = true → mHead r.heads n = -1)) ∨ ∃ (k a : Nat) (h : Head), mRepo r = true ∧ mHead r.heads n = (k : Int) ∧ r.heads[k]? = some h ∧ h.name = n ∧ h.at_ = (a : Int) ∧ a < r.commits.length ∧ mRepoAt r n = (a : Int) := by
  by_cases hr : mRepo r = true
  · rcases head_at hr n with h | ⟨k, a, h, h1, h2, h3, h4, h5⟩
    · refine .inl ⟨?_, fun _ => h⟩
      unfold mRepoAt
      rw [if_pos hr, h]
      rfl
    · refine .inr ⟨k, a, h, hr, h1, h2, h3, h4, h5, ?_⟩
      unfold mRepoAt
      rw [if_pos hr, h1, idx_nat, h2]
      exact h4
  · exact .inl ⟨by unfold mRepoAt; rw [if_neg hr], fun h => absurd h hr⟩
theorem cpa_loop {α : Type} {g : α → Option α} {gl : List α → Nat → List α → Option (List α)} (h0 : ∀ k v, gl [] k v = some v) (h1 : ∀ x l k v, gl (x :: l) k v = (g x).bind fun y => if fits (v ++ [y]).length = true then gl l (k + 1) (v ++ [y]) else none) : ∀ (l : List α) (k : Nat) (v : List α), (∀ x ∈ l, g x = some x) → v.length + l.length ≤ 1048576 → gl l k v = some (v ++ l)
  | [], k, v, _, _ => by rw [h0]; simp
  | x :: l, k, v, hx, hl => by
    simp only [List.length_cons] at hl
    rw [h1, hx x (by simp)]
    simp only [Option.bind_some]
    rw [if_pos (fits_small (by simp; omega)), cpa_loop h0 h1 l (k + 1) _ (fun y hy => hx y (by simp [hy])) (by simp; omega)]
    simp
theorem s_l2Copy {f : Feat} (h : wFeat f ≤ 1048576) : gf_spec_l2Copy f = some f := by
  unfold wFeat wShape wL at h
  unfold gf_spec_l2Copy gf_spec_l1Copy
  rw [if_pos (fits_small (by simp; omega))]
  simp only [Option.bind_some]
  rw [if_pos (fits_small (by simp; omega))]
  rfl
theorem s_l3Copy {fs : List Feat} (h : wL wFeat fs ≤ 1048576) : gf_spec_l3Copy fs = some fs := by
  have hl : fs.length ≤ 1048576 := by unfold wL at h; omega
  unfold gf_spec_l3Copy
  rw [if_pos (fits_small hl), cpa_loop (gl := gl_spec_l3Copy_1) (fun _ _ => rfl) (fun _ _ _ _ => rfl) fs 0 [] (fun x hx => s_l2Copy (by have := sum_mem (w := wFeat) hx; unfold wL at h; omega)) (by simpa using hl)]
  rfl
theorem s_l7One {c : Commit} (h : wCommit c ≤ 1048576) : gf_spec_l7One c = some c := by
  unfold wCommit at h
  unfold gf_spec_l7One
  rw [if_pos (fits_small (by unfold wL at h; simp; omega)), s_l3Copy (by omega)]
  rfl
theorem s_l7Copy {r : Repo} (h : wRepo r ≤ 1048576) : gf_spec_l7Copy r = some r := by
  unfold wRepo at h
  have hl : r.commits.length ≤ 1048576 := by unfold wL at h; omega
  unfold gf_spec_l7Copy
  rw [if_pos (fits_small (by unfold wL at h; simp; omega)), if_pos (fits_small hl), cpa_loop (gl := gl_spec_l7Copy_1) (fun _ _ => rfl) (fun _ _ _ _ => rfl) r.commits 0 [] (fun x hx => s_l7One (by have := sum_mem (w := wCommit) hx; unfold wL at h; omega)) (by simpa using hl)]
  rfl
end Go.Proofs.AM
