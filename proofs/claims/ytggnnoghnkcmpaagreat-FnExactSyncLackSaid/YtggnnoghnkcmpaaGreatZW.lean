/- A part of the proofs of this seat's statements (ZW): lemmas on an abstract machine for the program's functions. Conditions: none. -/
import Derived.Test.YtggnnoghnkcmpaaGreatZD
import Derived.Test.YtggnnoghnkcmpaaGreatM2
/-! The plain laws. -/
set_option linter.unusedVariables false
set_option linter.unusedSimpArgs false
set_option maxRecDepth 10000
namespace Go.Proofs.AM
theorem p_szPtS : Sz gf_laws_szPtS (okL okPt) (wL w0) := sz_flat fun _ _ => rfl
theorem p_szTag : Sz gf_laws_szTag okTag wTag := by
  intro x n hx h0 hn
  unfold gf_laws_szTag
  refine sz_str hx.1 h0 hn fun m0 e0 a0 b0 => ?_
  rw [e0]
  refine sz_str hx.2 a0 b0 fun m1 e1 a1 b1 => ?_
  rw [e1]
  exact sz_end a1
theorem p_szShape : Sz gf_laws_szShape okShape wShape := by
  intro x n hx h0 hn
  unfold gf_laws_szShape
  refine sz_sub p_szPtS hx.2 h0 hn fun m0 a0 b0 => ?_
  exact sz_end a0
theorem p_szTagS : Sz gf_laws_szTagS (okL okTag) (wL wTag) := sz_list p_szTag (gl := gl_laws_szTagS_1) (fun _ _ => rfl) (fun _ _ _ _ => rfl) (fun _ _ => rfl)
theorem p_szFeat : Sz gf_laws_szFeat okFeat wFeat := by
  intro x n hx h0 hn
  unfold gf_laws_szFeat
  refine sz_str hx.1 h0 hn fun m0 e0 a0 b0 => ?_
  rw [e0]
  refine sz_sub p_szShape hx.2.1 a0 b0 fun m1 a1 b1 => ?_
  refine sz_sub p_szTagS hx.2.2 a1 b1 fun m2 a2 b2 => ?_
  exact sz_end a2
theorem p_szIntS : Sz gf_laws_szIntS (okL rI) (wL w0) := sz_flat fun _ _ => rfl
theorem p_szFeatS : Sz gf_laws_szFeatS (okL okFeat) (wL wFeat) := sz_list p_szFeat (gl := gl_laws_szFeatS_1) (fun _ _ => rfl) (fun _ _ _ _ => rfl) (fun _ _ => rfl)
theorem p_szCommit : Sz gf_laws_szCommit okCommit wCommit := by
  intro x n hx h0 hn
  unfold gf_laws_szCommit
  refine sz_sub p_szIntS hx.1 h0 hn fun m0 a0 b0 => ?_
  refine sz_sub p_szFeatS hx.2.1 a0 b0 fun m1 a1 b1 => ?_
  refine sz_str hx.2.2 a1 b1 fun m2 e2 a2 b2 => ?_
  rw [e2]
  exact sz_end a2
theorem p_szHead : Sz gf_laws_szHead okHead wHead := by
  intro x n hx h0 hn
  unfold gf_laws_szHead
  refine sz_str hx.1 h0 hn fun m0 e0 a0 b0 => ?_
  rw [e0]
  exact sz_end a0
theorem p_szCommitS : Sz gf_laws_szCommitS (okL okCommit) (wL wCommit) := sz_list p_szCommit (gl := gl_laws_szCommitS_1) (fun _ _ => rfl) (fun _ _ _ _ => rfl) (fun _ _ => rfl)
theorem p_szHeadS : Sz gf_laws_szHeadS (okL okHead) (wL wHead) := sz_list p_szHead (gl := gl_laws_szHeadS_1) (fun _ _ => rfl) (fun _ _ _ _ => rfl) (fun _ _ => rfl)
theorem p_toPt : Cp gf_laws_toPt w0 := fun _ _ => rfl
theorem p_toPtS : Cp gf_laws_toPtS (wL w0) := cp_list p_toPt (gl := gl_laws_toPtS_1) (fun _ _ => rfl) (fun _ _ _ _ => rfl) (fun _ => rfl)
theorem p_toTag : Cp gf_laws_toTag wTag := fun _ _ => rfl
theorem p_toShape : Cp gf_laws_toShape wShape := by
  intro x h
  unfold wShape at h
  have h0 := p_toPtS x.pts (by omega)
  simp only [gf_laws_toShape, h0, Option.bind_some]
theorem p_toTagS : Cp gf_laws_toTagS (wL wTag) := cp_list p_toTag (gl := gl_laws_toTagS_1) (fun _ _ => rfl) (fun _ _ _ _ => rfl) (fun _ => rfl)
theorem p_toFeat : Cp gf_laws_toFeat wFeat := by
  intro x h
  unfold wFeat at h
  have h1 := p_toShape x.shape (by omega)
  have h2 := p_toTagS x.tags (by omega)
  simp only [gf_laws_toFeat, h1, h2, Option.bind_some]
theorem p_toIntS : Cp gf_laws_toIntS (wL w0) := cp_list (cp_id (w := w0)) (gl := gl_laws_toIntS_1) (fun _ _ => rfl) (fun _ _ _ _ => rfl) (fun _ => rfl)
theorem p_toFeatS : Cp gf_laws_toFeatS (wL wFeat) := cp_list p_toFeat (gl := gl_laws_toFeatS_1) (fun _ _ => rfl) (fun _ _ _ _ => rfl) (fun _ => rfl)
theorem p_toCommit : Cp gf_laws_toCommit wCommit := by
  intro x h
  unfold wCommit at h
  have h0 := p_toIntS x.up (by omega)
  have h1 := p_toFeatS x.sheet (by omega)
  simp only [gf_laws_toCommit, h0, h1, Option.bind_some]
theorem p_toHead : Cp gf_laws_toHead wHead := fun _ _ => rfl
theorem p_toCommitS : Cp gf_laws_toCommitS (wL wCommit) := cp_list p_toCommit (gl := gl_laws_toCommitS_1) (fun _ _ => rfl) (fun _ _ _ _ => rfl) (fun _ => rfl)
theorem p_toHeadS : Cp gf_laws_toHeadS (wL wHead) := cp_list p_toHead (gl := gl_laws_toHeadS_1) (fun _ _ => rfl) (fun _ _ _ _ => rfl) (fun _ => rfl)
theorem p_eqPt : Eqs gf_laws_eqPt w0 := by
  intro x h
  simp [gf_laws_eqPt]
theorem p_eqPtS : Eqs gf_laws_eqPtS (wL w0) := eq_list p_eqPt (gl := gl_laws_eqPtS_1) (fun _ _ => rfl) (fun _ _ _ _ => rfl) (fun _ _ => rfl)
theorem p_eqTag : Eqs gf_laws_eqTag wTag := by
  intro x h
  simp [gf_laws_eqTag, seq_self]
theorem p_eqShape : Eqs gf_laws_eqShape wShape := by
  intro x h
  unfold wShape at h
  have h0 := p_eqPtS x.pts (by omega)
  simp [gf_laws_eqShape, h0]
theorem p_eqTagS : Eqs gf_laws_eqTagS (wL wTag) := eq_list p_eqTag (gl := gl_laws_eqTagS_1) (fun _ _ => rfl) (fun _ _ _ _ => rfl) (fun _ _ => rfl)
theorem p_eqFeat : Eqs gf_laws_eqFeat wFeat := by
  intro x h
  unfold wFeat at h
  have h1 := p_eqShape x.shape (by omega)
  have h2 := p_eqTagS x.tags (by omega)
  simp [gf_laws_eqFeat, seq_self, h1, h2]
theorem p_eqIntS : Eqs gf_laws_eqIntS (wL w0) := eq_list (eq_id (w := w0)) (gl := gl_laws_eqIntS_1) (fun _ _ => rfl) (fun _ _ _ _ => rfl) (fun _ _ => rfl)
theorem p_eqFeatS : Eqs gf_laws_eqFeatS (wL wFeat) := eq_list p_eqFeat (gl := gl_laws_eqFeatS_1) (fun _ _ => rfl) (fun _ _ _ _ => rfl) (fun _ _ => rfl)
theorem p_eqCommit : Eqs gf_laws_eqCommit wCommit := by
  intro x h
  unfold wCommit at h
  have h0 := p_eqIntS x.up (by omega)
  have h1 := p_eqFeatS x.sheet (by omega)
  simp [gf_laws_eqCommit, seq_self, h0, h1]
theorem p_eqHead : Eqs gf_laws_eqHead wHead := by
  intro x h
  simp [gf_laws_eqHead, seq_self]
theorem p_eqCommitS : Eqs gf_laws_eqCommitS (wL wCommit) := eq_list p_eqCommit (gl := gl_laws_eqCommitS_1) (fun _ _ => rfl) (fun _ _ _ _ => rfl) (fun _ _ => rfl)
theorem p_eqHeadS : Eqs gf_laws_eqHeadS (wL wHead) := eq_list p_eqHead (gl := gl_laws_eqHeadS_1) (fun _ _ => rfl) (fun _ _ _ _ => rfl) (fun _ _ => rfl)
theorem p_szRepo : Sz gf_laws_szRepo okRepo wRepo := by
  intro x n hx h0 hn
  unfold gf_laws_szRepo
  refine sz_sub p_szCommitS hx.1 h0 hn fun m0 a0 b0 => ?_
  refine sz_sub p_szHeadS hx.2 a0 b0 fun m1 a1 b1 => ?_
  exact sz_end a1
theorem p_toRepo : Cp gf_laws_toRepo wRepo := by
  intro x h
  unfold wRepo at h
  have h0 := p_toCommitS x.commits (by omega)
  have h1 := p_toHeadS x.heads (by omega)
  simp only [gf_laws_toRepo, h0, h1, Option.bind_some]
theorem p_eqRepo : Eqs gf_laws_eqRepo wRepo := by
  intro x h
  unfold wRepo at h
  have h0 := p_eqCommitS x.commits (by omega)
  have h1 := p_eqHeadS x.heads (by omega)
  simp [gf_laws_eqRepo, h0, h1]
theorem s_WordOk {s : Str} (h : s.size ≤ 1048576) : gf_spec_WordOk s = some (mWord s) := by
  unfold gf_spec_WordOk mWord
  rw [if_pos (fits_small h), loopB (gl := gl_spec_WordOk_1) (p := fun (b : UInt8) _ => decide (97 ≤ b.toNat) && decide (b.toNat ≤ 122)) (xs := s.data.toList) (fun _ => rfl) (fun x l k _ => ?_) s.data.toList 0 rfl]
  · have e1 : ((s.size : Int) ≥ 1) ↔ 1 ≤ s.size := by omega
    have e2 : ((s.size : Int) ≤ 6) ↔ s.size ≤ 6 := by omega
    cases allFrom (fun (b : UInt8) _ => decide (97 ≤ b.toNat) && decide (b.toNat ≤ 122)) s.data.toList 0
    · rfl
    · by_cases h1 : 1 ≤ s.size <;> simp [e1, e2, h1]
  · have e1 : ((x.toNat : Int) < 97) ↔ ¬ 97 ≤ x.toNat := by omega
    have e2 : ((x.toNat : Int) > 122) ↔ ¬ x.toNat ≤ 122 := by omega
    simp only [gl_spec_WordOk_1, e1, e2]
    by_cases h1 : 97 ≤ x.toNat <;> by_cases h2 : x.toNat ≤ 122 <;> simp [h1, h2]
theorem i_WordOk {s : Str} (h : s.size ≤ 1048576) : gf_impl_WordOk s = some (mWord s) := by
  unfold gf_impl_WordOk mWord
  rw [if_pos (fits_small h), loopB (gl := gl_impl_WordOk_1) (p := fun (b : UInt8) _ => decide (97 ≤ b.toNat) && decide (b.toNat ≤ 122)) (xs := s.data.toList) (fun _ => rfl) (fun x l k _ => ?_) s.data.toList 0 rfl]
  · have e1 : ((s.size : Int) ≥ 1) ↔ 1 ≤ s.size := by omega
    have e2 : ((s.size : Int) ≤ 6) ↔ s.size ≤ 6 := by omega
    cases allFrom (fun (b : UInt8) _ => decide (97 ≤ b.toNat) && decide (b.toNat ≤ 122)) s.data.toList 0
    · rfl
    · by_cases h1 : 1 ≤ s.size <;> simp [gf_impl_within, e1, e2, h1]
  · have e1 : ((x.toNat : Int) < 97) ↔ ¬ 97 ≤ x.toNat := by omega
    have e2 : ((x.toNat : Int) > 122) ↔ ¬ x.toNat ≤ 122 := by omega
    simp only [gl_impl_WordOk_1, e1, e2]
    by_cases h1 : 97 ≤ x.toNat <;> by_cases h2 : x.toNat ≤ 122 <;> simp [h1, h2]
theorem s_l1Num (n : Int) : gf_spec_l1Num n = some (mNum n) := by
  unfold gf_spec_l1Num mNum
  by_cases h : -1000 ≤ n <;> simp [h]
theorem i_within (n a b : Int) : gf_impl_within n a b = some (decide (a ≤ n) && decide (n ≤ b)) := by
  unfold gf_impl_within
  by_cases h : a ≤ n <;> simp [h]
theorem s_l1Pts {xs : List Pt} (h : xs.length ≤ 1048576) : gf_spec_l1Pts xs = some (mPts xs && decide (xs.length ≤ 6)) := by
  unfold gf_spec_l1Pts mPts
  rw [if_pos (fits_small h), loopB (gl := gl_spec_l1Pts_1 xs) (p := fun p k => mNum p.x && (mNum p.y && (decide (k = 0) || decide (xs[k - 1]? ≠ some p)))) (xs := xs) (fun _ => rfl) (fun x l k hd => ?_) xs 0 rfl]
  · rw [show decide ((xs.length : Int) ≤ 6) = decide (xs.length ≤ 6) from decI]
    exact endB
  · simp only [gl_spec_l1Pts_1, s_l1Num, Option.bind_some, ptb, posI]
    rcases Nat.eq_zero_or_pos k with rfl | hk
    · cases mNum x.x <;> cases mNum x.y <;> simp
    · obtain ⟨y, hy⟩ := drop_prev hd hk
      have hl := drop_len hd
      have hw := wrap_pred hk (by omega)
      rw [hw, idx_nat, hy]
      have hk' : ¬ k = 0 := by omega
      by_cases e : x = y
      · subst e
        cases mNum x.x <;> cases mNum x.y <;> simp [hk, hk', hy]
      · have e' : ¬ y = x := fun h => e h.symm
        cases mNum x.x <;> cases mNum x.y <;> simp [hk, hk', hy, e, e']
theorem s_ShapeOk {x : Shape} (h : x.pts.length ≤ 1048576) : gf_spec_ShapeOk x = some (mShape x) := by
  unfold gf_spec_ShapeOk mShape
  rw [s_l1Pts h]
  simp only [Option.bind_some, ptb]
  have c1 : ((x.pts.length : Int) == 1) = decide (x.pts.length = 1) := by
    by_cases e : x.pts.length = 1 <;> simp [e] <;> omega
  have c2 : ((x.pts.length : Int) ≥ 2) ↔ 2 ≤ x.pts.length := by omega
  have c3 : ((x.pts.length : Int) ≥ 3) ↔ 3 ≤ x.pts.length := by omega
  cases mPts x.pts
  · simp
  · by_cases hl : x.pts.length ≤ 6
    · by_cases k1 : x.kind = 1
      · simp [k1, hl, c1]
      · by_cases k2 : x.kind = 2
        · simp [k2, hl, c2]
        · by_cases k3 : x.kind = 3
          · by_cases h3 : 3 ≤ x.pts.length
            · obtain ⟨p, hp⟩ : ∃ p, x.pts[0]? = some p := ⟨x.pts[0], List.getElem?_eq_getElem (by omega)⟩
              obtain ⟨q, hq⟩ : ∃ p, x.pts[x.pts.length - 1]? = some p := ⟨x.pts[x.pts.length - 1], List.getElem?_eq_getElem (by omega)⟩
              have hw := wrap_pred (k := x.pts.length) (by omega) (by omega)
              have e0 : idx x.pts 0 = some p := by rw [← hp]; exact idx_nat (k := 0)
              have e1 : idx x.pts ((x.pts.length - 1 : Nat) : Int) = some q := by rw [← hq]; exact idx_nat
              rw [hw]
              simp [k3, hl, c3, h3, e0, e1, hp, hq]
            · simp [k3, hl, c3, h3]
          · simp [k1, k2, k3, hl]
    · simp [hl]
theorem i_ptOk (p : Pt) : gf_impl_ptOk p = some (mNum p.x && mNum p.y) := by
  unfold gf_impl_ptOk mNum
  rw [i_within, i_within]
  simp only [Option.bind_some]
  cases (decide (-1000 ≤ p.x) && decide (p.x ≤ 1000)) <;> simp
theorem i_ShapeOk {x : Shape} (h : x.pts.length ≤ 1048576) : gf_impl_ShapeOk x = some (mShape x) := by
  unfold gf_impl_ShapeOk mShape
  have c1 : ((x.pts.length : Int) == 1) = decide (x.pts.length = 1) := by
    by_cases e : x.pts.length = 1 <;> simp [e] <;> omega
  have c2 : ((2 : Int) ≤ (x.pts.length : Int)) ↔ 2 ≤ x.pts.length := by omega
  have c3 : ((3 : Int) ≤ (x.pts.length : Int)) ↔ 3 ≤ x.pts.length := by omega
  have c6 : ((x.pts.length : Int) ≤ 6) ↔ x.pts.length ≤ 6 := by omega
  rw [if_pos (fits_small h), loopB (gl := gl_impl_ShapeOk_1 x) (p := fun p k => mNum p.x && (mNum p.y && (decide (k = 0) || decide (x.pts[k - 1]? ≠ some p)))) (xs := x.pts) (fun _ => rfl) (fun y l k hd => ?_) x.pts 0 rfl]
  · show _ = some (mPts x.pts && _)
    have hm : allFrom (fun (p : Pt) k => mNum p.x && (mNum p.y && (decide (k = 0) || decide (x.pts[k - 1]? ≠ some p)))) x.pts 0 = mPts x.pts := rfl
    rw [hm]
    cases mPts x.pts
    · rfl
    · simp only [if_true, Option.bind_some, ptb, i_within]
      by_cases k1 : x.kind = 1
      · by_cases e : x.pts.length = 1 <;> simp [k1, c1, e]
      · by_cases k2 : x.kind = 2
        · by_cases e : x.pts.length ≤ 6 <;> simp [k2, c2, c6, e]
        · by_cases k3 : x.kind = 3
          · by_cases h3 : 3 ≤ x.pts.length
            · obtain ⟨p, hp⟩ : ∃ p, x.pts[0]? = some p := ⟨x.pts[0], List.getElem?_eq_getElem (by omega)⟩
              obtain ⟨q, hq⟩ : ∃ p, x.pts[x.pts.length - 1]? = some p := ⟨x.pts[x.pts.length - 1], List.getElem?_eq_getElem (by omega)⟩
              have hw := wrap_pred (k := x.pts.length) (by omega) (by omega)
              have e0 : idx x.pts 0 = some p := by rw [← hp]; exact idx_nat (k := 0)
              have e1 : idx x.pts ((x.pts.length - 1 : Nat) : Int) = some q := by rw [← hq]; exact idx_nat
              rw [hw]
              by_cases e : x.pts.length ≤ 6 <;> simp [k3, c3, c6, h3, e0, e1, hp, hq, e]
            · simp [k3, c3, c6, h3]
          · simp [k1, k2, k3]
  · simp only [gl_impl_ShapeOk_1, i_ptOk, Option.bind_some, ptb, posI]
    rcases Nat.eq_zero_or_pos k with rfl | hk
    · cases mNum y.x <;> cases mNum y.y <;> simp
    · obtain ⟨z, hz⟩ := drop_prev hd hk
      have hl := drop_len hd
      have hw := wrap_pred hk (by omega)
      rw [hw, idx_nat, hz]
      have hk' : ¬ k = 0 := by omega
      by_cases e : z = y <;> cases mNum y.x <;> cases mNum y.y <;> simp [hk, hk', hz, e]
theorem s_l2Tags {ts : List Tag} (h : wL wTag ts ≤ 1048576) : gf_spec_l2Tags ts = some (mTags ts && decide (ts.length ≤ 4)) := by
  have hlen : ts.length ≤ 1048576 := by unfold wL at h; omega
  unfold gf_spec_l2Tags mTags
  rw [if_pos (fits_small hlen), loopB (gl := gl_spec_l2Tags_1 ts) (p := fun t k => mWord t.key && (mWord t.val && (decide (k = 0) || mPrev Tag.key ts t k))) (xs := ts) (fun _ => rfl) (fun x l k hd => ?_) ts 0 rfl]
  · rw [show decide ((ts.length : Int) ≤ 4) = decide (ts.length ≤ 4) from decI]
    exact endB
  · have hx : x ∈ ts := List.mem_of_getElem? (drop_get hd)
    have hs := sum_mem (w := wTag) hx
    unfold wL at h
    have hk1 : x.key.size ≤ 1048576 := by have e0 : wTag x = x.key.size + (x.val.size + 0) := rfl; omega
    have hk2 : x.val.size ≤ 1048576 := by have e0 : wTag x = x.key.size + (x.val.size + 0) := rfl; omega
    simp only [gl_spec_l2Tags_1, s_WordOk hk1, s_WordOk hk2, Option.bind_some, posI, slt_seq]
    rcases Nat.eq_zero_or_pos k with rfl | hk
    · cases mWord x.key <;> cases mWord x.val <;> simp
    · obtain ⟨z, hz⟩ := drop_prev hd hk
      have hl := drop_len hd
      have hw := wrap_pred hk (by omega)
      rw [hw, idx_nat, hz]
      have hk' : ¬ k = 0 := by omega
      cases e : slt z.key x.key <;> cases mWord x.key <;> cases mWord x.val <;> simp [hk, hk', hz, e, mPrev]
theorem s_FeatOk {f : Feat} (h : wFeat f ≤ 1048576) : gf_spec_FeatOk f = some (mFeat f) := by
  unfold wFeat wShape at h
  have h1 : f.id.size ≤ 1048576 := by omega
  have h2 : f.shape.pts.length ≤ 1048576 := by unfold wL at h; omega
  unfold gf_spec_FeatOk mFeat
  rw [s_WordOk h1, s_ShapeOk h2, s_l2Tags (by omega)]
  simp only [Option.bind_some]
  cases mWord f.id <;> cases mShape f.shape <;> simp
theorem i_FeatOk {f : Feat} (h : wFeat f ≤ 1048576) : gf_impl_FeatOk f = some (mFeat f) := by
  unfold wFeat wShape at h
  have h1 : f.id.size ≤ 1048576 := by omega
  have h2 : f.shape.pts.length ≤ 1048576 := by unfold wL at h; omega
  have h3 : wL wTag f.tags ≤ 1048576 := by omega
  have hlen : f.tags.length ≤ 1048576 := by unfold wL at h3; omega
  unfold gf_impl_FeatOk mFeat
  rw [if_pos (fits_small hlen), loopB (gl := gl_impl_FeatOk_1 f) (p := fun t k => mWord t.key && (mWord t.val && (decide (k = 0) || mPrev Tag.key f.tags t k))) (xs := f.tags) (fun _ => rfl) (fun x l k hd => ?_) f.tags 0 rfl]
  · have hm : allFrom (fun (t : Tag) k => mWord t.key && (mWord t.val && (decide (k = 0) || mPrev Tag.key f.tags t k))) f.tags 0 = mTags f.tags := rfl
    rw [hm, i_WordOk h1, i_ShapeOk h2]
    rw [show decide ((f.tags.length : Int) ≤ 4) = decide (f.tags.length ≤ 4) from decI]
    cases mTags f.tags <;> cases mWord f.id <;> cases mShape f.shape <;> simp
  · have hx : x ∈ f.tags := List.mem_of_getElem? (drop_get hd)
    have hs := sum_mem (w := wTag) hx
    unfold wL at h3
    have hk1 : x.key.size ≤ 1048576 := by have e0 : wTag x = x.key.size + (x.val.size + 0) := rfl; omega
    have hk2 : x.val.size ≤ 1048576 := by have e0 : wTag x = x.key.size + (x.val.size + 0) := rfl; omega
    simp only [gl_impl_FeatOk_1, i_WordOk hk1, i_WordOk hk2, Option.bind_some, posI]
    rcases Nat.eq_zero_or_pos k with rfl | hk
    · cases mWord x.key <;> cases mWord x.val <;> simp
    · obtain ⟨z, hz⟩ := drop_prev hd hk
      have hl := drop_len hd
      have hw := wrap_pred hk (by omega)
      rw [hw, idx_nat, hz]
      have hk' : ¬ k = 0 := by omega
      cases e : slt z.key x.key <;> cases mWord x.key <;> cases mWord x.val <;> simp [hk, hk', hz, e, mPrev]
theorem s_SheetOk {fs : List Feat} (h : wL wFeat fs ≤ 1048576) : gf_spec_SheetOk fs = some (mSheet fs) := by
  have hlen : fs.length ≤ 1048576 := by unfold wL at h; omega
  unfold gf_spec_SheetOk mSheet
  rw [if_pos (fits_small hlen), loopB (gl := gl_spec_SheetOk_1 fs) (p := fun f k => mFeat f && (decide (k = 0) || mPrev Feat.id fs f k)) (xs := fs) (fun _ => rfl) (fun x l k hd => ?_) fs 0 rfl]
  · rw [show decide ((fs.length : Int) ≤ 8) = decide (fs.length ≤ 8) from decI]
    exact endB
  · have hx : x ∈ fs := List.mem_of_getElem? (drop_get hd)
    have hs := sum_mem (w := wFeat) hx
    unfold wL at h
    simp only [gl_spec_SheetOk_1, s_FeatOk (f := x) (by omega), Option.bind_some, posI, slt_seq]
    rcases Nat.eq_zero_or_pos k with rfl | hk
    · cases mFeat x <;> simp
    · obtain ⟨z, hz⟩ := drop_prev hd hk
      have hl := drop_len hd
      have hw := wrap_pred hk (by omega)
      rw [hw, idx_nat, hz]
      have hk' : ¬ k = 0 := by omega
      cases e : slt z.id x.id <;> cases mFeat x <;> simp [hk, hk', hz, e, mPrev]
theorem i_SheetOk {fs : List Feat} (h : wL wFeat fs ≤ 1048576) : gf_impl_SheetOk fs = some (mSheet fs) := by
  have hlen : fs.length ≤ 1048576 := by unfold wL at h; omega
  unfold gf_impl_SheetOk mSheet
  rw [if_pos (fits_small hlen), loopB (gl := gl_impl_SheetOk_1 fs) (p := fun f k => mFeat f && (decide (k = 0) || mPrev Feat.id fs f k)) (xs := fs) (fun _ => rfl) (fun x l k hd => ?_) fs 0 rfl]
  · rw [show decide ((fs.length : Int) ≤ 8) = decide (fs.length ≤ 8) from decI]
    exact endB
  · have hx : x ∈ fs := List.mem_of_getElem? (drop_get hd)
    have hs := sum_mem (w := wFeat) hx
    unfold wL at h
    simp only [gl_impl_SheetOk_1, i_FeatOk (f := x) (by omega), Option.bind_some, posI, slt_seq]
    rcases Nat.eq_zero_or_pos k with rfl | hk
    · cases mFeat x <;> simp
    · obtain ⟨z, hz⟩ := drop_prev hd hk
      have hl := drop_len hd
      have hw := wrap_pred hk (by omega)
      rw [hw, idx_nat, hz]
      have hk' : ¬ k = 0 := by omega
      cases e : slt z.id x.id <;> cases mFeat x <;> simp [hk, hk', hz, e, mPrev]
theorem s_l1Same {a b : List Pt} (h : a.length ≤ 1048576) : gf_spec_l1Same a b = some (decide (a = b)) := eqd_list (gl := gl_spec_l1Same_1) (ok := fun _ => True) (fun _ _ => rfl) (fun a x l k y _ hy => by
  simp only [gl_spec_l1Same_1, idx_nat, hy, Option.bind_some, ptb]
  by_cases e : x = y <;> simp [e]) (fun _ _ => rfl) h (fun _ _ => trivial)
theorem i_EqPt {a b : List Pt} (h : a.length ≤ 1048576) : gf_slices_Equal_impl_Pt_impl_Pt a b = some (decide (a = b)) := eqd_list (gl := gl_slices_Equal_impl_Pt_impl_Pt_1) (ok := fun _ => True) (fun _ _ => rfl) (fun a x l k y _ hy => by
  simp only [gl_slices_Equal_impl_Pt_impl_Pt_1, idx_nat, hy, Option.bind_some, ptb]
  by_cases e : x = y <;> simp [e]) (fun _ _ => rfl) h (fun _ _ => trivial)
theorem s_l2Same {a b : List Tag} (h : a.length ≤ 1048576) : gf_spec_l2Same a b = some (decide (a = b)) := eqd_list (gl := gl_spec_l2Same_1) (ok := fun _ => True) (fun _ _ => rfl) (fun a x l k y _ hy => by
  simp only [gl_spec_l2Same_1, idx_nat, hy, Option.bind_some, tagb]
  by_cases e : x = y <;> simp [e]) (fun _ _ => rfl) h (fun _ _ => trivial)
theorem i_EqTag {a b : List Tag} (h : a.length ≤ 1048576) : gf_slices_Equal_impl_Tag_impl_Tag a b = some (decide (a = b)) := eqd_list (gl := gl_slices_Equal_impl_Tag_impl_Tag_1) (ok := fun _ => True) (fun _ _ => rfl) (fun a x l k y _ hy => by
  simp only [gl_slices_Equal_impl_Tag_impl_Tag_1, idx_nat, hy, Option.bind_some, tagb]
  by_cases e : x = y <;> simp [e]) (fun _ _ => rfl) h (fun _ _ => trivial)
theorem s_l7Ints {a b : List Int} (h : a.length ≤ 1048576) : gf_spec_l7Ints a b = some (decide (a = b)) := eqd_list (gl := gl_spec_l7Ints_1) (ok := fun _ => True) (fun _ _ => rfl) (fun a x l k y _ hy => by
  simp only [gl_spec_l7Ints_1, idx_nat, hy, Option.bind_some]
  by_cases e : x = y <;> simp [e]) (fun _ _ => rfl) h (fun _ _ => trivial)
theorem i_EqInt {a b : List Int} (h : a.length ≤ 1048576) : gf_slices_Equal_int_int a b = some (decide (a = b)) := eqd_list (gl := gl_slices_Equal_int_int_1) (ok := fun _ => True) (fun _ _ => rfl) (fun a x l k y _ hy => by
  simp only [gl_slices_Equal_int_int_1, idx_nat, hy, Option.bind_some]
  by_cases e : x = y <;> simp [e]) (fun _ _ => rfl) h (fun _ _ => trivial)
theorem s_ShapeSame {a b : Shape} (h : a.pts.length ≤ 1048576) : gf_spec_ShapeSame a b = some (decide (a = b)) := by
  unfold gf_spec_ShapeSame
  rw [s_l1Same h]
  obtain ⟨k, p⟩ := a; obtain ⟨k2, p2⟩ := b
  by_cases h1 : k = k2 <;> by_cases h2 : p = p2 <;> simp [h1, h2]
theorem s_FeatSame {a b : Feat} (h : wFeat a ≤ 1048576) : gf_spec_FeatSame a b = some (decide (a = b)) := by
  unfold wFeat wShape wL at h
  unfold gf_spec_FeatSame
  rw [s_ShapeSame (by omega), s_l2Same (by omega), seq_dec]
  obtain ⟨i, s, t⟩ := a; obtain ⟨i2, s2, t2⟩ := b
  by_cases h1 : i = i2 <;> by_cases h2 : s = s2 <;> by_cases h3 : t = t2 <;> simp [h1, h2, h3]
theorem i_ShapeSame {a b : Shape} (h : a.pts.length ≤ 1048576) : gf_impl_ShapeSame a b = some (decide (a = b)) := by
  unfold gf_impl_ShapeSame
  rw [i_EqPt h]
  obtain ⟨k, p⟩ := a; obtain ⟨k2, p2⟩ := b
  by_cases h1 : k = k2 <;> by_cases h2 : p = p2 <;> simp [h1, h2]
theorem i_FeatSame {a b : Feat} (h : wFeat a ≤ 1048576) : gf_impl_FeatSame a b = some (decide (a = b)) := by
  unfold wFeat wShape wL at h
  unfold gf_impl_FeatSame
  rw [i_ShapeSame (by omega), i_EqTag (by omega), seq_dec]
  obtain ⟨i, s, t⟩ := a; obtain ⟨i2, s2, t2⟩ := b
  by_cases h1 : i = i2 <;> by_cases h2 : s = s2 <;> by_cases h3 : t = t2 <;> simp [h1, h2, h3]
theorem s_SheetSame {a b : List Feat} (h : wL wFeat a ≤ 1048576) : gf_spec_SheetSame a b = some (decide (a = b)) := eqd_list (gl := gl_spec_SheetSame_1) (ok := fun x => wFeat x ≤ 1048576) (fun _ _ => rfl) (fun a x l k y hx hy => by
  simp only [gl_spec_SheetSame_1, idx_nat, hy, Option.bind_some, s_FeatSame hx]
  by_cases e : x = y <;> simp [e]) (fun _ _ => rfl) (by unfold wL at h; omega) (fun x hx => by have := sum_mem (w := wFeat) hx; unfold wL at h; omega)
theorem i_EqFeat {a b : List Feat} (h : wL wFeat a ≤ 1048576) : gf_slices_EqualFunc_impl_Feat_impl_Feat_impl_Feat_impl_Feat__impl_FeatSame a b = some (decide (a = b)) := eqd_list (gl := gl_slices_EqualFunc_impl_Feat_impl_Feat_impl_Feat_impl_Feat__impl_FeatSame_1) (ok := fun x => wFeat x ≤ 1048576) (fun _ _ => rfl) (fun a x l k y hx hy => by
  simp only [gl_slices_EqualFunc_impl_Feat_impl_Feat_impl_Feat_impl_Feat__impl_FeatSame_1, idx_nat, hy, Option.bind_some, i_FeatSame hx]
  by_cases e : x = y <;> simp [e]) (fun _ _ => rfl) (by unfold wL at h; omega) (fun x hx => by have := sum_mem (w := wFeat) hx; unfold wL at h; omega)
theorem i_SheetSame {a b : List Feat} (h : wL wFeat a ≤ 1048576) : gf_impl_SheetSame a b = some (decide (a = b)) := by
  unfold gf_impl_SheetSame
  rw [i_EqFeat h]
  rfl
theorem s_sameCommit {a b : Commit} (h : wCommit a ≤ 1048576) : gf_spec_l7Same a b = some (decide (a = b)) := by
  unfold wCommit at h
  unfold gf_spec_l7Same
  rw [s_l7Ints (by unfold wL at h; omega), s_SheetSame (by omega), seq_dec]
  obtain ⟨i, s, t⟩ := a; obtain ⟨i2, s2, t2⟩ := b
  by_cases h1 : i = i2 <;> by_cases h2 : s = s2 <;> by_cases h3 : t = t2 <;> simp [h1, h2, h3]
theorem i_sameCommit {a b : Commit} (h : wCommit a ≤ 1048576) : gf_impl_sameCommit a b = some (decide (a = b)) := by
  unfold wCommit at h
  unfold gf_impl_sameCommit
  rw [i_EqInt (by unfold wL at h; omega), i_SheetSame (by omega), seq_dec]
  obtain ⟨i, s, t⟩ := a; obtain ⟨i2, s2, t2⟩ := b
  by_cases h1 : i = i2 <;> by_cases h2 : s = s2 <;> by_cases h3 : t = t2 <;> simp [h1, h2, h3]
theorem s_l7Find {r : Repo} {c : Commit} (h : wL wCommit r.commits ≤ 1048576) : gf_spec_l7Find r c = some (mFind r.commits c) := by
  unfold gf_spec_l7Find mFind
  rw [if_pos (fits_small (by unfold wL at h; omega))]
  exact loopF (gl := gl_spec_l7Find_1 c) (ok := fun x => wCommit x ≤ 1048576) (fun _ => rfl) (fun x l k hx => by simp only [gl_spec_l7Find_1, s_sameCommit hx, Option.bind_some]) _ 0 fun x hx => by have := sum_mem (w := wCommit) hx; unfold wL at h; omega
theorem i_Repo_commit {r : Repo} {c : Commit} (h : wL wCommit r.commits ≤ 1048576) : gf_impl_Repo_commit r c = some (mFind r.commits c) := by
  have key : gf_slices_IndexFunc_impl_Commit_impl_Commit__impl_Repo_commit_1 r.commits c = some (mFind r.commits c) := by
    unfold gf_slices_IndexFunc_impl_Commit_impl_Commit__impl_Repo_commit_1 mFind
    rw [if_pos (fits_small (by unfold wL at h; omega))]
    exact loopF (gl := gl_slices_IndexFunc_impl_Commit_impl_Commit__impl_Repo_commit_1_1 c) (ok := fun x => wCommit x ≤ 1048576) (fun _ => rfl) (fun x l k hx => by simp only [gl_slices_IndexFunc_impl_Commit_impl_Commit__impl_Repo_commit_1_1, gf_impl_Repo_commit_1, i_sameCommit hx, Option.bind_some]) _ 0 fun x hx => by have := sum_mem (w := wCommit) hx; unfold wL at h; omega
  unfold gf_impl_Repo_commit
  rw [key]
  rfl
theorem s_l7Head {r : Repo} {n : Str} (h : r.heads.length ≤ 1048576) : gf_spec_l7Head r n = some (mHead r.heads n) := by
  unfold gf_spec_l7Head mHead
  rw [if_pos (fits_small h)]
  exact loopF (gl := gl_spec_l7Head_1 n) (ok := fun _ => True) (fun _ => rfl) (fun x l k _ => by simp only [gl_spec_l7Head_1, seq_dec]) _ 0 fun _ _ => trivial
theorem i_Repo_head {r : Repo} {n : Str} (h : r.heads.length ≤ 1048576) : gf_impl_Repo_head r n = some (mHead r.heads n) := by
  have key : gf_slices_IndexFunc_impl_Head_impl_Head__impl_Repo_head_1 r.heads n = some (mHead r.heads n) := by
    unfold gf_slices_IndexFunc_impl_Head_impl_Head__impl_Repo_head_1 mHead
    rw [if_pos (fits_small h)]
    exact loopF (gl := gl_slices_IndexFunc_impl_Head_impl_Head__impl_Repo_head_1_1 n) (ok := fun _ => True) (fun _ => rfl) (fun x l k _ => by simp only [gl_slices_IndexFunc_impl_Head_impl_Head__impl_Repo_head_1_1, gf_impl_Repo_head_1, seq_dec, Option.bind_some]) _ 0 fun _ _ => trivial
  unfold gf_impl_Repo_head
  rw [key]
  rfl
theorem s_l7Up {up : List Int} {k : Nat} (h : up.length ≤ 1048576) : gf_spec_l7Up up (k : Int) = some (mUp up k) := by
  unfold gf_spec_l7Up mUp
  rw [if_pos (fits_small h), loopB (gl := gl_spec_l7Up_1 (k : Int)) (p := fun (x : Int) _ => decide (0 ≤ x) && decide (x < (k : Int))) (xs := up) (fun _ => rfl) (fun x l j _ => ?_) up 0 rfl]
  · generalize allFrom (fun (x : Int) _ => decide (0 ≤ x) && decide (x < (k : Int))) up 0 = A
    cases A
    · rfl
    · have e1 : decide ((k : Int) > 0) = decide (0 < k) := posI
      match up with
      | [] => cases e : decide (0 < k) <;> simp [e1, e]
      | [a] => cases e : decide (0 < k) <;> simp [e1, e]
      | [a, b] =>
        have i0 : idx [a, b] 0 = some a := rfl
        have i1 : idx [a, b] 1 = some b := rfl
        by_cases e2 : a = b
        · subst e2
          cases e : decide (0 < k) <;> simp [e1, e, i0, i1]
        · cases e : decide (0 < k) <;> simp [e1, e, i0, i1, e2]
      | a :: b :: c :: l =>
        have e2 : ¬ ((l.length : Int) + 1 + 1 + 1 ≤ 2) := by omega
        simp [e2]
  · have e1 : (x ≥ (k : Int)) ↔ ¬ x < (k : Int) := by omega
    have e2 : (x < 0) ↔ ¬ 0 ≤ x := by omega
    simp only [gl_spec_l7Up_1, e1, e2]
    by_cases h1 : 0 ≤ x <;> by_cases h2 : x < (k : Int) <;> simp [h1, h2]
theorem s_RepoOk {r : Repo} (h : wRepo r ≤ 1048576) : gf_spec_RepoOk r = some (mRepo r) := by
  unfold wRepo at h
  have hc : wL wCommit r.commits ≤ 1048576 := by omega
  have hh : wL wHead r.heads ≤ 1048576 := by omega
  have hcl : r.commits.length ≤ 1048576 := by unfold wL at hc; omega
  have hhl : r.heads.length ≤ 1048576 := by unfold wL at hh; omega
  have c1 : ((r.commits.length : Int) < 1) ↔ ¬ 1 ≤ r.commits.length := by omega
  have c2 : ((r.commits.length : Int) > 14) ↔ ¬ r.commits.length ≤ 14 := by omega
  have c3 : ((r.heads.length : Int) < 1) ↔ ¬ 1 ≤ r.heads.length := by omega
  have c4 : ((r.heads.length : Int) > 4) ↔ ¬ r.heads.length ≤ 4 := by omega
  have k1 : gl_spec_RepoOk_1 r r.commits 0 = some (if mCommits r.commits = true then .inr () else .inl false) := by
    refine loopB (gl := gl_spec_RepoOk_1 r) (p := fun c k => mUp c.up k && (mSheet c.sheet && (mWord c.note && decide (mFind r.commits c = (k : Int))))) (xs := r.commits) (fun _ => rfl) (fun x l k hd => ?_) r.commits 0 rfl
    have hx : x ∈ r.commits := List.mem_of_getElem? (drop_get hd)
    have hs := sum_mem (w := wCommit) hx
    have e0 : wCommit x = wL w0 x.up + (wL wFeat x.sheet + (x.note.size + 0)) := rfl
    have hs' : wCommit x ≤ 1048576 := by unfold wL at hc; omega
    have hu : x.up.length ≤ 1048576 := by have : wL w0 x.up = x.up.length + sumW w0 x.up := rfl; omega
    simp only [gl_spec_RepoOk_1, s_l7Up hu, s_SheetOk (fs := x.sheet) (by omega), s_WordOk (s := x.note) (by omega), s_l7Find hc, Option.bind_some]
    by_cases e : mFind r.commits x = (k : Int) <;> cases mUp x.up k <;> cases mSheet x.sheet <;> cases mWord x.note <;> simp [e]
  have k2 : gl_spec_RepoOk_2 r r.heads 0 = some (if mHeads r.commits.length r.heads = true then .inr () else .inl false) := by
    refine loopB (gl := gl_spec_RepoOk_2 r) (p := fun h k => mWord h.name && (decide (mHead r.heads h.name = (k : Int)) && (decide (0 ≤ h.at_) && decide (h.at_ < (r.commits.length : Int))))) (xs := r.heads) (fun _ => rfl) (fun x l k hd => ?_) r.heads 0 rfl
    have hx : x ∈ r.heads := List.mem_of_getElem? (drop_get hd)
    have hs := sum_mem (w := wHead) hx
    have e0 : wHead x = x.name.size + 0 := rfl
    have hs' : x.name.size ≤ 1048576 := by unfold wL at hh; omega
    have d1 : (x.at_ < 0) ↔ ¬ 0 ≤ x.at_ := by omega
    have d2 : (x.at_ ≥ (r.commits.length : Int)) ↔ ¬ x.at_ < (r.commits.length : Int) := by omega
    simp only [gl_spec_RepoOk_2, s_WordOk hs', s_l7Head hhl, Option.bind_some, d1, d2]
    by_cases e : mHead r.heads x.name = (k : Int) <;> by_cases e1 : 0 ≤ x.at_ <;> by_cases e2 : x.at_ < (r.commits.length : Int) <;> cases mWord x.name <;> simp [e, e1, e2]
  unfold gf_spec_RepoOk mRepo
  rw [k1, k2, if_pos (fits_small hcl), if_pos (fits_small hhl)]
  simp only [c1, c2, c3, c4]
  by_cases h1 : 1 ≤ r.commits.length <;> by_cases h2 : r.commits.length ≤ 14 <;> by_cases h3 : 1 ≤ r.heads.length <;> by_cases h4 : r.heads.length ≤ 4 <;> cases mCommits r.commits <;> cases mHeads r.commits.length r.heads <;> simp [h1, h2, h3, h4]
theorem i_version {r : Repo} {k : Int} (h : r.commits.length ≤ 1048576) : gf_impl_Repo_version r k = some (decide (0 ≤ k) && decide (k < (r.commits.length : Int))) := by
  unfold gf_impl_Repo_version
  rw [wrap_id (by omega) (by omega), i_within]
  have e : (k ≤ (r.commits.length : Int) - 1) ↔ k < (r.commits.length : Int) := by omega
  simp [e]
theorem i_Contains0 (x : Int) : gf_slices_Contains_int_int [] x = some false := rfl
theorem i_Contains1 (a x : Int) : gf_slices_Contains_int_int [a] x = some (decide (x = a)) := by
  have hf : fits 1 = true := fits_small (by omega)
  by_cases e : x = a
  · subst e
    simp [gf_slices_Contains_int_int, gf_slices_Index_int_int, hf, gl_slices_Index_int_int_1]
  · simp [gf_slices_Contains_int_int, gf_slices_Index_int_int, hf, gl_slices_Index_int_int_1, e]
theorem i_up5 {c : Commit} {k : Nat} (hk : k ≤ 1048576) (h : c.up.length ≤ 2) : gl_impl_RepoOk_5 k c c.up 0 = some (if (allFrom (fun (x : Int) _ => decide (0 ≤ x) && decide (x < (k : Int))) c.up 0 && decide (c.up[0]? = none ∨ c.up[0]? ≠ c.up[1]?)) = true then .inr () else .inl false) := by
  have hw : IntKind.i64.wrap ((k : Int) - 1) = (k : Int) - 1 := wrap_id (by omega) (by omega)
  have hi : ∀ x : Int, (x ≤ (k : Int) - 1) ↔ x < (k : Int) := fun x => by omega
  obtain ⟨up, sh, nt⟩ := c
  match up, h with
  | [], _ => rfl
  | [a], _ =>
    have s0 : slc [a] 0 ((0 : Nat) : Int) = some [] := by simp [slc]
    simp only [gl_impl_RepoOk_5, i_within, hw, hi, Option.bind_some, s0, i_Contains0, allFrom]
    by_cases h1 : 0 ≤ a <;> by_cases h2 : a < (k : Int) <;> simp [h1, h2]
  | [a, b], _ =>
    have s0 : slc [a, b] 0 ((0 : Nat) : Int) = some [] := by simp [slc]
    have s1 : slc [a, b] 0 ((0 + 1 : Nat) : Int) = some [a] := by simp [slc]
    simp only [gl_impl_RepoOk_5, i_within, hw, hi, Option.bind_some, s0, s1, i_Contains0, i_Contains1, allFrom]
    by_cases e : b = a
    · subst e
      by_cases h1 : 0 ≤ b <;> by_cases h2 : b < (k : Int) <;> simp [h1, h2]
    · have e' : ¬ a = b := fun h => e h.symm
      by_cases h1 : 0 ≤ a <;> by_cases h2 : a < (k : Int) <;> by_cases h3 : 0 ≤ b <;> by_cases h4 : b < (k : Int) <;> simp [h1, h2, h3, h4, e, e']
  | _ :: _ :: _ :: _, h => simp at h
theorem i_RepoOk {r : Repo} (h : wRepo r ≤ 1048576) : gf_impl_RepoOk r = some (mRepo r) := by
  unfold wRepo at h
  have hc : wL wCommit r.commits ≤ 1048576 := by omega
  have hh : wL wHead r.heads ≤ 1048576 := by omega
  have hcl : r.commits.length ≤ 1048576 := by unfold wL at hc; omega
  have hhl : r.heads.length ≤ 1048576 := by unfold wL at hh; omega
  have c1 : ((1 : Int) ≤ r.commits.length) ↔ 1 ≤ r.commits.length := by omega
  have c2 : ((r.commits.length : Int) ≤ 14) ↔ r.commits.length ≤ 14 := by omega
  have c3 : ((1 : Int) ≤ r.heads.length) ↔ 1 ≤ r.heads.length := by omega
  have c4 : ((r.heads.length : Int) ≤ 4) ↔ r.heads.length ≤ 4 := by omega
  have k1 : gl_impl_RepoOk_4 r r.commits 0 = some (if mCommits r.commits = true then .inr () else .inl false) := by
    refine loopB (gl := gl_impl_RepoOk_4 r) (p := fun c k => mUp c.up k && (mSheet c.sheet && (mWord c.note && decide (mFind r.commits c = (k : Int))))) (xs := r.commits) (fun _ => rfl) (fun x l k hd => ?_) r.commits 0 rfl
    have hx : x ∈ r.commits := List.mem_of_getElem? (drop_get hd)
    have hkl := drop_len hd
    have hs := sum_mem (w := wCommit) hx
    have e0 : wCommit x = wL w0 x.up + (wL wFeat x.sheet + (x.note.size + 0)) := rfl
    have hs' : wCommit x ≤ 1048576 := by unfold wL at hc; omega
    have hu : x.up.length ≤ 1048576 := by have : wL w0 x.up = x.up.length + sumW w0 x.up := rfl; omega
    have d1 : (((k : Int) == 0) == ((x.up.length : Int) == 0)) = (decide (0 < x.up.length) == decide (0 < k)) := by
      rw [zI, zI, posD, posD]
      cases decide (k = 0) <;> cases decide (x.up.length = 0) <;> rfl
    have d2 : ((x.up.length : Int) > 2) ↔ ¬ x.up.length ≤ 2 := by omega
    obtain ⟨B, hB⟩ : ∃ B, (decide (0 < x.up.length) == decide (0 < k)) = B := ⟨_, rfl⟩
    rw [hB] at d1
    simp only [gl_impl_RepoOk_4, i_SheetOk (fs := x.sheet) (by omega), i_WordOk (s := x.note) (by omega), i_Repo_commit hc, Option.bind_some, d1, d2, mUp, hB]
    clear d1 hB
    by_cases b : x.up.length ≤ 2
    · rw [i_up5 (by omega) b, if_pos (fits_small hu)]
      obtain ⟨D, hD⟩ : ∃ D, (decide (x.up[0]? = none ∨ x.up[0]? ≠ x.up[1]?)) = D := ⟨_, rfl⟩
      rw [hD]
      clear hD
      by_cases e : mFind r.commits x = (k : Int) <;> cases B <;> cases mSheet x.sheet <;> cases mWord x.note <;> cases allFrom (fun (x : Int) _ => decide (0 ≤ x) && decide (x < (k : Int))) x.up 0 <;> cases D <;> simp [e, b]
    · by_cases e : mFind r.commits x = (k : Int) <;> cases B <;> cases mSheet x.sheet <;> cases mWord x.note <;> simp [e, b]
  have k2 : gl_impl_RepoOk_6 r r.heads 0 = some (if mHeads r.commits.length r.heads = true then .inr () else .inl false) := by
    refine loopB (gl := gl_impl_RepoOk_6 r) (p := fun h k => mWord h.name && (decide (mHead r.heads h.name = (k : Int)) && (decide (0 ≤ h.at_) && decide (h.at_ < (r.commits.length : Int))))) (xs := r.heads) (fun _ => rfl) (fun x l k hd => ?_) r.heads 0 rfl
    have hx : x ∈ r.heads := List.mem_of_getElem? (drop_get hd)
    have hs := sum_mem (w := wHead) hx
    have e0 : wHead x = x.name.size + 0 := rfl
    have hs' : x.name.size ≤ 1048576 := by unfold wL at hh; omega
    simp only [gl_impl_RepoOk_6, i_WordOk hs', i_Repo_head hhl, i_version hcl, Option.bind_some]
    by_cases e : mHead r.heads x.name = (k : Int) <;> by_cases e1 : 0 ≤ x.at_ <;> by_cases e2 : x.at_ < (r.commits.length : Int) <;> cases mWord x.name <;> simp [e, e1, e2]
  unfold gf_impl_RepoOk mRepo
  rw [k1, k2, if_pos (fits_small hcl), if_pos (fits_small hhl), i_within, i_within]
  simp only [c1, c2, c3, c4, Option.bind_some]
  by_cases h1 : 1 ≤ r.commits.length <;> by_cases h2 : r.commits.length ≤ 14 <;> by_cases h3 : 1 ≤ r.heads.length <;> by_cases h4 : r.heads.length ≤ 4 <;> cases mCommits r.commits <;> cases mHeads r.commits.length r.heads <;> simp [h1, h2, h3, h4]

theorem s_l10Same_loop {a b : Repo} {x y : Commit} {rec : Repo → Int → Repo → Int → Option Bool} {f : Nat → Nat → Bool} (hrec : ∀ u ∈ x.up, ∀ v ∈ y.up, rec a u b v = some (f u.toNat v.toNat)) (hl : x.up.length = y.up.length) : ∀ (l : List Int) (k : Nat), x.up.drop k = l → gl_spec_l10Same_1 y rec a b l k = some (if ((l.zip (y.up.drop k)).all fun p => f p.1.toNat p.2.toNat) = true then .inr () else .inl false)
  | [], k, h => rfl
  | u :: l, k, h => by
    have hk := drop_len h
    obtain ⟨v, hv⟩ := getI (xs := y.up) (i := k) (by omega)
    have hd : y.up.drop k = v :: y.up.drop (k + 1) := by
      rw [List.drop_eq_getElem_cons (by omega), (List.getElem?_eq_some_iff.1 hv).2]
    simp only [gl_spec_l10Same_1, idx_nat, hv, Option.bind_some, hrec u (List.mem_of_getElem? (drop_get h)) v (List.mem_of_getElem? hv), hd, List.zip_cons_cons, List.all_cons]
    have ih := s_l10Same_loop hrec hl l (k + 1) (drop_next h)
    cases f u.toNat v.toNat
    · rfl
    · exact ih
theorem s_l10Same {a b : Repo} (ha : Hist a.commits) (hb : Hist b.commits) (hw : wRepo a ≤ 1048576) : ∀ (n i k : Nat), i < n → i < a.commits.length → k < b.commits.length → gf_spec_l10Same n a (i : Int) b (k : Int) = some (sameF a.commits b.commits n i k)
  | 0, _, _, h, _, _ => by omega
  | n + 1, i, k, h, hi, hk => by
    obtain ⟨x, hx⟩ := getI hi
    obtain ⟨y, hy⟩ := getI hk
    have hwx : wCommit x ≤ 1048576 := by
      have := sum_mem (w := wCommit) (List.mem_of_getElem? hx)
      unfold wRepo wL at hw
      omega
    have hws : wL wFeat x.sheet ≤ 1048576 := by unfold wCommit at hwx; omega
    have hwu : x.up.length ≤ 1048576 := by unfold wCommit at hwx; unfold wL at hwx; omega
    show gb_spec_l10Same (gf_spec_l10Same n) a i b k = _
    unfold gb_spec_l10Same
    rw [sameF]
    simp only [idx_nat, hx, hy, Option.bind_some, seq_dec, s_SheetSame hws]
    by_cases e1 : x.note = y.note
    · by_cases e2 : x.up.length = y.up.length
      · by_cases e3 : x.sheet = y.sheet
        · rw [s_l10Same_loop (f := sameF a.commits b.commits n) (fun u hu v hv => ?_) e2 x.up 0 rfl]
          · simp only [e1, e2, e3, List.drop_zero]
            cases (x.up.zip y.up).all fun p => sameF a.commits b.commits n p.1.toNat p.2.toNat <;> simp [fits_small (n := y.up.length) (by omega)]
          · have h1 := ha.lt i x hx u hu
            have h2 := hb.lt k y hy v hv
            have := s_l10Same ha hb hw n u.toNat v.toNat (by omega) (by omega) (by omega)
            rwa [Int.toNat_of_nonneg h1.1, Int.toNat_of_nonneg h2.1] at this
        · simp [e1, e2, e3]
      · have e2' : ¬ ((x.up.length : Int) = (y.up.length : Int)) := by omega
        simp [e1, e2, e2']
    · simp [e1]
theorem s_l10Same' {a b : Repo} (ha : mRepo a = true) (hb : mRepo b = true) (hw : wRepo a ≤ 1048576) {i k : Nat} (hi : i < a.commits.length) (hk : k < b.commits.length) : gf_spec_l10Same rounds a (i : Int) b (k : Int) = some (mSame a.commits b.commits i k) := by
  have hl := (repo_len ha).1.2
  have hr : (14 : Nat) < rounds := by decide
  rw [s_l10Same (repo_hist ha) (repo_hist hb) hw rounds i k (by omega) hi hk]
  unfold mSame
  rw [sameF_stable (repo_hist ha) rounds (i + 1) i k (by omega) (by omega)]
theorem set_self {α : Type} {T : List α} {i : Nat} {x : α} (h : T[i]? = some x) : T.set i x = T := by
  refine List.ext_getElem? fun j => ?_
  by_cases e : i = j
  · subst e
    rw [List.getElem?_set_self (get_lt h), h]
  · rw [List.getElem?_set_ne e]
theorem i_alike_51f {T : List (List Bool)} {y : Commit} {c0 : Bool} : ∀ (l : List Int) (k : Nat), gl_impl_alike_51 T y l k false c0 = some (false, c0)
  | [], k => rfl
  | _ :: _, k => rfl
theorem i_alike_51 {T : List (List Bool)} {x y : Commit} {f : Nat → Nat → Bool} {c0 : Bool} (hT : ∀ u ∈ x.up, ∀ v ∈ y.up, 0 ≤ u ∧ 0 ≤ v ∧ ∃ R, T[u.toNat]? = some R ∧ R[v.toNat]? = some (f u.toNat v.toNat)) (hl : x.up.length = y.up.length) : ∀ (l : List Int) (k : Nat) (c : Bool), x.up.drop k = l → gl_impl_alike_51 T y l k c c0 = some (c && (l.zip (y.up.drop k)).all fun p => f p.1.toNat p.2.toNat, c0)
  | [], k, c, h => by cases c <;> rfl
  | u :: l, k, c, h => by
    have hk := drop_len h
    obtain ⟨v, hv⟩ := getI (xs := y.up) (i := k) (by omega)
    have hd : y.up.drop k = v :: y.up.drop (k + 1) := by
      rw [List.drop_eq_getElem_cons (by omega), (List.getElem?_eq_some_iff.1 hv).2]
    obtain ⟨h1, h2, R, h3, h4⟩ := hT u (List.mem_of_getElem? (drop_get h)) v (List.mem_of_getElem? hv)
    cases c
    · exact i_alike_51f _ _
    · simp only [gl_impl_alike_51, if_true, idx_int h1, h3, idx_nat, hv, idx_int h2, h4, Option.bind_some, hd, List.zip_cons_cons, List.all_cons, Bool.true_and]
      exact i_alike_51 hT hl l (k + 1) _ (drop_next h)
theorem i_alike_50 {a b : Repo} (ha : Hist a.commits) (hb : Hist b.commits) (hwa : wRepo a ≤ 1048576) {i : Nat} {x : Commit} (hx : a.commits[i]? = some x) : ∀ (l : List Commit) (k : Nat) (T : List (List Bool)), b.commits.drop k = l → k + l.length = b.commits.length → T[i]? = some ((List.range k).map (mSame a.commits b.commits i) ++ List.replicate l.length false) → (∀ j, j < i → T[j]? = some ((List.range b.commits.length).map (mSame a.commits b.commits j))) → gl_impl_alike_50 x i l k T = some (T.set i ((List.range b.commits.length).map (mSame a.commits b.commits i)))
  | [], k, T, h, hk, hT, hp => by
    simp only [List.length_nil, Nat.add_zero] at hk
    subst hk
    simp only [List.length_nil, List.replicate_zero, List.append_nil] at hT
    rw [set_self hT]
    rfl
  | y :: l, k, T, h, hk, hT, hp => by
    simp only [List.length_cons] at hk hT
    have hil := get_lt hT
    have hy := drop_get h
    have hwx : wCommit x ≤ 1048576 := by
      have := sum_mem (w := wCommit) (List.mem_of_getElem? hx)
      unfold wRepo wL at hwa
      omega
    have hws : wL wFeat x.sheet ≤ 1048576 := by unfold wCommit at hwx; omega
    have hwu : x.up.length ≤ 1048576 := by unfold wCommit at hwx; unfold wL at hwx; omega
    have hrow : ∀ w, ((List.range k).map (mSame a.commits b.commits i) ++ List.replicate (l.length + 1) false)[k]? = some false ∧ ((List.range k).map (mSame a.commits b.commits i) ++ List.replicate (l.length + 1) false).set k w = (List.range k).map (mSame a.commits b.commits i) ++ w :: List.replicate l.length false := fun w => by
      constructor
      · rw [List.getElem?_append_right (by simp)]
        simp
      · rw [List.set_append_right _ _ (by simp)]
        simp [List.replicate_succ]
    have next : ∀ w, w = mSame a.commits b.commits i k → gl_impl_alike_50 x i l (k + 1) (T.set i (((List.range k).map (mSame a.commits b.commits i) ++ List.replicate (l.length + 1) false).set k w)) = some (T.set i ((List.range b.commits.length).map (mSame a.commits b.commits i))) := fun w hw => by
      rw [i_alike_50 ha hb hwa hx l (k + 1) _ (drop_next h) (by omega) ?_ fun j hj => ?_, List.set_set]
      · rw [List.getElem?_set_self hil, (hrow w).2, List.range_succ, List.map_append, hw]
        simp
      · rw [List.getElem?_set_ne (by omega)]
        exact hp j hj
    have hms := mSame_eq ha (b := b.commits) hx hy
    simp only [gl_impl_alike_50, seq_dec, i_SheetSame hws, Option.bind_some, idx_nat, hT, (hrow false).1, Int.toNat_natCast]
    by_cases e1 : x.note = y.note
    · by_cases e2 : x.sheet = y.sheet
      · simp only [e1, decide_true, if_true]
        rw [if_pos (by simp [e2]), if_pos (fits_small hwu)]
        by_cases e3 : x.up.length = y.up.length
        · have e3' : ((x.up.length : Int) == (y.up.length : Int)) = true := by simp [e3]
          rw [e3', i_alike_51 (f := mSame a.commits b.commits) (fun u hu v hv => ?_) e3 x.up 0 true rfl]
          · simp only [Option.bind_some, Bool.true_and, List.drop_zero]
            exact next _ (by rw [hms]; simp [e1, e2, e3])
          · have h1 := ha.lt i x hx u hu
            have h2 := hb.lt k y hy v hv
            refine ⟨h1.1, h2.1, _, hp u.toNat (by omega), ?_⟩
            have := drop_len h
            rw [List.getElem?_map, List.getElem?_range (by omega)]
            rfl
        · have e3' : ((x.up.length : Int) == (y.up.length : Int)) = false := by simp; omega
          rw [e3', i_alike_51f]
          exact next _ (by rw [hms]; simp [e3])
      · simp only [e1, e2, decide_true, decide_false, if_true]
        rw [if_neg (by decide)]
        have : gl_impl_alike_52 x rounds = some () := by
          show gl_impl_alike_52 x (4194303 + 1) = _
          simp only [gl_impl_alike_52]
          split <;> rfl
        rw [this]
        exact next _ (by rw [hms]; simp [e2])
    · simp only [e1, decide_false]
      rw [if_neg (by decide)]
      have : gl_impl_alike_53 x rounds = some () := by
        show gl_impl_alike_53 x (4194303 + 1) = _
        simp only [gl_impl_alike_53]
        split <;> rfl
      rw [this]
      exact next _ (by rw [hms]; simp [e1])
theorem i_alike_40 {a b : Repo} (ha : Hist a.commits) (hb : Hist b.commits) (hwa : wRepo a ≤ 1048576) (hwb : b.commits.length ≤ 1048576) : ∀ (l : List Commit) (i : Nat) (T : List (List Bool)), a.commits.drop i = l → i + l.length = a.commits.length → T.length = a.commits.length → (∀ j, j < i → T[j]? = some ((List.range b.commits.length).map (mSame a.commits b.commits j))) → gl_impl_alike_40 b l i T = some ((List.range a.commits.length).map fun i => (List.range b.commits.length).map (mSame a.commits b.commits i))
  | [], i, T, h, hi, hT, hp => by
    simp only [List.length_nil, Nat.add_zero] at hi
    subst hi
    simp only [gl_impl_alike_40, Option.some.injEq]
    refine List.ext_getElem? fun j => ?_
    rcases Nat.lt_or_ge j a.commits.length with hj | hj
    · rw [hp j hj, List.getElem?_map, List.getElem?_range hj]
      rfl
    · rw [List.getElem?_eq_none (by omega), List.getElem?_eq_none (by simpa using hj)]
  | x :: l, i, T, h, hi, hT, hp => by
    have hx := drop_get h
    have hil := drop_len h
    obtain ⟨r0, hr0⟩ := getI (xs := T) (i := i) (by omega)
    simp only [List.length_cons] at hi
    simp only [gl_impl_alike_40, idx_nat, hr0, Option.bind_some, Int.toNat_natCast]
    rw [if_pos (by simp [fits_small hwb]), if_pos (fits_small hwb)]
    rw [i_alike_50 ha hb hwa hx b.commits 0 _ rfl (by omega) (by rw [List.getElem?_set_self (by omega)]; simp) (fun j hj => by rw [List.getElem?_set_ne (by omega)]; exact hp j hj), List.set_set]
    simp only [Option.bind_some]
    refine i_alike_40 ha hb hwa hwb l (i + 1) _ (drop_next h) (by omega) (by simpa using hT) fun j hj => ?_
    rcases Nat.eq_or_lt_of_le (Nat.le_of_lt_succ hj) with rfl | hj
    · rw [List.getElem?_set_self (by omega)]
    · rw [List.getElem?_set_ne (by omega)]
      exact hp j hj
theorem i_alike {a b : Repo} (ha : mRepo a = true) (hb : mRepo b = true) (hwa : wRepo a ≤ 1048576) : gf_impl_alike a b = some ((List.range a.commits.length).map fun i => (List.range b.commits.length).map (mSame a.commits b.commits i)) := by
  have h1 := (repo_len ha).1.2
  have h2 := (repo_len hb).1.2
  unfold gf_impl_alike
  rw [if_pos (by simp [fits_small (n := a.commits.length) (by omega)]), if_pos (fits_small (by omega)), i_alike_40 (repo_hist ha) (repo_hist hb) hwa (by omega) a.commits 0 _ rfl (by omega) (by simp) (fun j hj => by omega)]
  rfl
theorem fst_loop {α : Type} {gl : List α → Nat → Option (Int ⊕ Unit)} {p : Nat → Bool} {xs : List α} (h0 : ∀ k, gl [] k = some (.inr ())) (h1 : ∀ x l k, xs.drop k = x :: l → gl (x :: l) k = if p k = true then some (.inl (k : Int)) else gl l (k + 1)) : ∀ (l : List α) (k : Nat), xs.drop k = l → ((gl l k).bind fun q => match q with | .inl r => some r | .inr _ => some (-1)) = some (fstN p l.length k)
  | [], k, h => by rw [h0]; rfl
  | x :: l, k, h => by
    rw [h1 x l k h]
    have e : fstN p (x :: l).length k = if p k = true then (k : Int) else fstN p l.length (k + 1) := rfl
    rw [e]
    by_cases hp : p k = true
    · rw [if_pos hp, if_pos hp]
      rfl
    · rw [if_neg hp, if_neg hp]
      exact fst_loop h0 h1 l (k + 1) (drop_next h)
theorem s_l10Find {a b : Repo} (ha : mRepo a = true) (hb : mRepo b = true) (hw : wRepo a ≤ 1048576) {k : Nat} (hk : k < b.commits.length) : gf_spec_l10Find a b (k : Int) = some (mSyncFind a.commits b.commits k) := by
  have hl : a.commits.length ≤ 1048576 := by unfold wRepo wL at hw; omega
  unfold gf_spec_l10Find mSyncFind
  rw [if_pos (fits_small hl)]
  exact fst_loop (gl := gl_spec_l10Find_1 a b (k : Int)) (xs := a.commits) (fun _ => rfl) (fun x l i h => by
    simp only [gl_spec_l10Find_1, s_l10Same' ha hb hw (drop_len h) hk, Option.bind_some]) a.commits 0 rfl
theorem i_SyncFind {a b : Repo} {k : Int} (hwa : wRepo a ≤ 1048576) (hwb : wRepo b ≤ 1048576) : gf_impl_SyncFind a b k = some (if (mRepo a && (mRepo b && (decide (0 ≤ k) && decide (k < (b.commits.length : Int))))) = true then mSyncFind a.commits b.commits k.toNat else -1) := by
  have hlb : b.commits.length ≤ 1048576 := by unfold wRepo wL at hwb; omega
  have hla : a.commits.length ≤ 1048576 := by unfold wRepo wL at hwa; omega
  unfold gf_impl_SyncFind
  rw [i_RepoOk hwa, i_RepoOk hwb, i_version hlb]
  by_cases h1 : mRepo a = true
  · by_cases h2 : mRepo b = true
    · by_cases h4 : 0 ≤ k ∧ k < (b.commits.length : Int)
      · have key : gf_slices_IndexFunc_bool_bool__impl_SyncFind_1 ((List.range a.commits.length).map fun i => (List.range b.commits.length).map (mSame a.commits b.commits i)) k = some (mSyncFind a.commits b.commits k.toNat) := by
          unfold gf_slices_IndexFunc_bool_bool__impl_SyncFind_1 mSyncFind
          rw [if_pos (fits_small (by simpa using hla))]
          have := fst_loop (gl := gl_slices_IndexFunc_bool_bool__impl_SyncFind_1_1 k) (p := fun i => mSame a.commits b.commits i k.toNat) (xs := (List.range a.commits.length).map fun i => (List.range b.commits.length).map (mSame a.commits b.commits i)) (fun _ => rfl) (fun x l i h => by
            have hx := drop_get h
            have hi := get_lt hx
            simp only [List.length_map, List.length_range] at hi
            rw [List.getElem?_map, List.getElem?_range hi] at hx
            simp only [Option.map_some, Option.some.injEq] at hx
            subst hx
            simp only [gl_slices_IndexFunc_bool_bool__impl_SyncFind_1_1, gf_impl_SyncFind_1, idx_int h4.1]
            rw [List.getElem?_map, List.getElem?_range (by omega)]
            rfl) _ 0 rfl
          rw [List.drop_zero, List.length_map, List.length_range] at this
          exact this
        simp [i_alike h1 h2 hwa, h1, h2, h4, key]
      · have h4' : (decide (0 ≤ k) && decide (k < (b.commits.length : Int))) = false := by simp; omega
        simp [h1, h2, h4']
    · simp [h1, h2]
  · simp [h1]
theorem rep_get {n j : Nat} : (List.replicate n false)[j]? ≠ some true := by
  rw [List.getElem?_replicate]
  split <;> simp
theorem marks_init {cs : List Commit} {F : List Nat} (hF : ∀ f ∈ F, f < cs.length) : Marks cs F cs.length (setAll (List.replicate cs.length false) (F.map fun (f : Nat) => (f : Int))) where
  len := by rw [setAll_len, List.length_replicate]
  snd := fun j hj => by
    rcases setAll_get.1 hj with hj | ⟨_, u, hu, rfl⟩
    · exact absurd hj rep_get
    · obtain ⟨f, hf, rfl⟩ := List.mem_map.1 hu
      exact ⟨f, hf, .refl f⟩
  frm := fun f hf => setAll_get.2 (.inr ⟨by rw [List.length_replicate]; exact hF f hf, f, List.mem_map.2 ⟨f, hf, rfl⟩, rfl⟩)
  cl := fun j x u hj hb hx hu => by
    have := get_lt hx
    omega
theorem s_l7Marks_1 : ∀ (l : List Int) (k : Nat) (m : List Bool), (∀ u ∈ l, 0 ≤ u ∧ u < (m.length : Int)) → gl_spec_l7Marks_1 l k m = some (setAll m l)
  | [], k, m, h => rfl
  | u :: l, k, m, h => by
    have hu := h u (by simp)
    obtain ⟨b, hb⟩ := getI (xs := m) (i := u.toNat) (by omega)
    simp only [gl_spec_l7Marks_1, idx_int hu.1, hb, Option.bind_some]
    exact s_l7Marks_1 l (k + 1) _ fun v hv => by
      rw [List.length_set]
      exact h v (by simp [hv])
theorem s_l7Marks_6 {r : Repo} {v : Nat} {x : Commit} (hx : r.commits[v]? = some x) (hu : ∀ u ∈ x.up, 0 ≤ u ∧ u < (v : Int)) (h2 : x.up.length ≤ 2) : ∀ (l : List Int) (j n : Nat) (m : List Bool), x.up.drop j = l → l.length < n → m[v]? = some true → gl_spec_l7Marks_6 r (v : Int) n (j : Int) m = some (setAll m l)
  | _, _, 0, _, _, h, _ => by omega
  | [], j, n + 1, m, h, hn, hm => by
    simp only [gl_spec_l7Marks_6, idx_nat, hx, Option.bind_some, drop_ge h]
    rfl
  | u :: l, j, n + 1, m, h, hn, hm => by
    have hue := drop_get h
    have hul := hu u (List.mem_of_getElem? hue)
    have hvl := get_lt hm
    obtain ⟨b, hb⟩ := getI (xs := m) (i := u.toNat) (by omega)
    have hjl := drop_len h
    have hw : IntKind.i64.wrap ((j : Int) + 1) = ((j + 1 : Nat) : Int) := by rw [wrap_id (by omega) (by omega)]; omega
    simp only [gl_spec_l7Marks_6, idx_nat, hx, Option.bind_some, drop_lt h, hm, hue, idx_int hul.1, hb, if_true, hw]
    exact s_l7Marks_6 hx hu h2 l (j + 1) n _ (drop_next h) (by simp at hn; omega) (by rw [List.getElem?_set_ne (by omega)]; exact hm)
theorem s_l7Marks_6f {r : Repo} {v n : Nat} {x : Commit} {m : List Bool} (hx : r.commits[v]? = some x) (hm : m[v]? = some false) : gl_spec_l7Marks_6 r (v : Int) (n + 1) 0 m = some m := by
  simp only [gl_spec_l7Marks_6, idx_nat, hx, Option.bind_some, hm]
  split
  · rfl
  · rfl
theorem s_l7Marks_5 {r : Repo} {F : List Nat} (hc : Hist r.commits) : ∀ (k n : Nat) (m : List Bool), k < n → k ≤ r.commits.length → k ≤ 1048576 → Marks r.commits F k m → gl_spec_l7Marks_5 r n ((k : Int) - 1) m = some (mark r.commits F)
  | _, 0, _, h, _, _, _ => by omega
  | 0, n + 1, m, _, _, _, h => by
    rw [h.fin]
    rfl
  | k + 1, n + 1, m, hn, hk, hb, h => by
    obtain ⟨x, hx⟩ := getI (xs := r.commits) (i := k) (by omega)
    obtain ⟨b, hb2⟩ := getI (xs := m) (i := k) (by rw [h.len]; omega)
    have e1 : (((k + 1 : Nat) : Int) - 1) = (k : Int) := by omega
    have hw : IntKind.i64.wrap ((k : Int) - 1) = (k : Int) - 1 := wrap_id (by omega) (by omega)
    have hge : decide ((k : Int) ≥ 0) = true := decide_eq_true (by omega)
    have hr : rounds = 4194303 + 1 := rfl
    rw [e1]
    simp only [gl_spec_l7Marks_5, hge, if_true, hw]
    cases b
    · rw [hr, s_l7Marks_6f hx hb2]
      exact s_l7Marks_5 hc k n m (by omega) (by omega) (by omega) (h.skip (by rw [hb2]; simp))
    · have h2 := hc.two x (List.mem_of_getElem? hx)
      have := s_l7Marks_6 hx (hc.lt k x hx) h2 x.up 0 rounds m rfl (by rw [hr]; omega) hb2
      simp only [Int.ofNat_zero, Int.natCast_zero] at this
      rw [this]
      exact s_l7Marks_5 hc k n _ (by omega) (by omega) (by omega) (h.step hc hb2 hx)
theorem s_l7Marks {r : Repo} {F : List Nat} (hc : Hist r.commits) (hl : r.commits.length ≤ 1048576) (hF : ∀ f ∈ F, f < r.commits.length) (hFl : F.length ≤ 1048576) : gf_spec_l7Marks r (F.map fun (f : Nat) => (f : Int)) = some (mark r.commits F) := by
  have hr : rounds = 4194303 + 1 := rfl
  unfold gf_spec_l7Marks
  rw [if_pos (by simp [fits_small hl]), if_pos (fits_small (by simpa using hFl)), Int.toNat_natCast, s_l7Marks_1 _ _ _ (fun u hu => by
    obtain ⟨f, hf, rfl⟩ := List.mem_map.1 hu
    have := hF f hf
    rw [List.length_replicate]
    omega), wrap_id (by omega) (by omega)]
  simp only [Option.bind_some]
  rw [s_l7Marks_5 hc r.commits.length rounds _ (by rw [hr]; omega) (Nat.le_refl _) hl (marks_init hF)]
  rfl
theorem s_l7Marks1 {r : Repo} {k : Nat} (hc : Hist r.commits) (hl : r.commits.length ≤ 1048576) (hk : k < r.commits.length) : gf_spec_l7Marks r [(k : Int)] = some (mark r.commits [k]) := by
  have := s_l7Marks (r := r) (F := [k]) hc hl (by simpa using hk) (by simp)
  simpa using this
theorem i_past_5 : ∀ (l : List Int) (k : Nat) (m : List Bool), (∀ u ∈ l, 0 ≤ u ∧ u < (m.length : Int)) → gl_impl_Repo_past_5 l k m = some (setAll m l)
  | [], k, m, h => rfl
  | u :: l, k, m, h => by
    have hu := h u (by simp)
    obtain ⟨b, hb⟩ := getI (xs := m) (i := u.toNat) (by omega)
    simp only [gl_impl_Repo_past_5, idx_int hu.1, hb, Option.bind_some]
    exact i_past_5 l (k + 1) _ fun v hv => by
      rw [List.length_set]
      exact h v (by simp [hv])
theorem i_past_4 {r : Repo} {F : List Nat} (hc : Hist r.commits) : ∀ (k n : Nat) (m : List Bool), k < n → k ≤ r.commits.length → k ≤ 1048576 → Marks r.commits F k m → gl_impl_Repo_past_4 r n ((k : Int) - 1) m = some (mark r.commits F)
  | _, 0, _, h, _, _, _ => by omega
  | 0, n + 1, m, _, _, _, h => by
    rw [h.fin]
    rfl
  | k + 1, n + 1, m, hn, hk, hb, h => by
    obtain ⟨x, hx⟩ := getI (xs := r.commits) (i := k) (by omega)
    obtain ⟨b, hb2⟩ := getI (xs := m) (i := k) (by rw [h.len]; omega)
    have e1 : (((k + 1 : Nat) : Int) - 1) = (k : Int) := by omega
    have hw : IntKind.i64.wrap ((k : Int) - 1) = (k : Int) - 1 := wrap_id (by omega) (by omega)
    have hge : decide ((k : Int) ≥ 0) = true := decide_eq_true (by omega)
    rw [e1]
    simp only [gl_impl_Repo_past_4, hge, if_true, hw, idx_nat, hb2, Option.bind_some]
    cases b
    · exact i_past_4 hc k n m (by omega) (by omega) (by omega) (h.skip (by rw [hb2]; simp))
    · have h2 := hc.two x (List.mem_of_getElem? hx)
      simp only [hx, if_true, Option.bind_some]
      rw [if_pos (fits_small (by omega)), i_past_5 x.up 0 m (fun u hu => by
        have := hc.lt k x hx u hu
        rw [h.len]
        omega)]
      exact i_past_4 hc k n _ (by omega) (by omega) (by omega) (h.step hc hb2 hx)
theorem i_past {r : Repo} {k : Nat} (hc : Hist r.commits) (hl : r.commits.length ≤ 1048576) (hk : k < r.commits.length) : gf_impl_Repo_past r (k : Int) = some (mark r.commits [k]) := by
  have hr : rounds = 4194303 + 1 := rfl
  have h0 : (List.replicate r.commits.length false)[k]? = some false := by rw [List.getElem?_replicate, if_pos hk]
  have hm : Marks r.commits [k] (k + 1) ((List.replicate r.commits.length false).set k true) := by
    have := marks_init (cs := r.commits) (F := [k]) (by simpa using hk)
    exact marks_above hc (by simpa [setAll] using this) (by simp) (by omega)
  have e1 : (((k + 1 : Nat) : Int) - 1) = (k : Int) := by omega
  have := i_past_4 hc (k + 1) rounds _ (by rw [hr]; omega) (by omega) (by omega) hm
  rw [e1] at this
  unfold gf_impl_Repo_past
  rw [if_pos (by simp [fits_small hl])]
  simp only [Int.toNat_natCast, idx_nat, h0, Option.bind_some, this]
def kM : Int := 4398046511104
theorem bstr1 (n : Int) : (bstr [n]).size = 1 := rfl
theorem cat_some {a b : Str} (h : a.size + b.size ≤ 1000) : ∃ t, cat a b = some t ∧ t.size = a.size + b.size := ⟨a ++ b, by unfold cat; rw [if_pos (by omega)], by simp⟩
theorem markText_loop : ∀ (m n w : Nat) (s : Str), w < 10 ^ m → m ≤ 18 → m < n → s.size + m ≤ 100 → ∃ t, gl_laws_markText_1 n (w : Int) s = some t ∧ t.size ≤ s.size + m
  | m, 0, w, s, _, _, h, _ => by omega
  | 0, n + 1, w, s, h1, _, _, _ => by
    have : w = 0 := by simpa using h1
    subst this
    exact ⟨s, rfl, by omega⟩
  | m + 1, n + 1, w, s, h1, h2, h3, h4 => by
    simp only [gl_laws_markText_1]
    by_cases hv : 0 < w
    · rw [if_pos (by simpa using hv)]
      have hd : Int.tdiv (w : Int) 10 = ((w / 10 : Nat) : Int) := by
        rw [Int.tdiv_eq_ediv_of_nonneg (by omega)]
        rfl
      have hlt : w / 10 < 10 ^ m := by
        rw [Nat.pow_succ] at h1
        exact Nat.div_lt_of_lt_mul (by rw [Nat.mul_comm]; exact h1)
      have h5 : (10 : Nat) ^ m ≤ 10 ^ 18 := Nat.pow_le_pow_right (by decide) (by omega)
      have h6 : (10 : Nat) ^ 18 = 1000000000000000000 := by decide
      obtain ⟨t, ht, hs⟩ := cat_some (a := bstr [(IntKind.u8.wrap (IntKind.i64.wrap (48 + (Int.tmod (w : Int) 10))))]) (b := s) (by rw [bstr1]; omega)
      rw [bstr1] at hs
      rw [ht, hd, wrap_id (by omega) (by omega)]
      simp only [Option.bind_some]
      obtain ⟨t2, h7, h8⟩ := markText_loop m n (w / 10) t hlt (by omega) (by omega) (by omega)
      exact ⟨t2, h7, by omega⟩
    · rw [if_neg (by simpa using hv)]
      exact ⟨s, rfl, by omega⟩
theorem markText_ok {k : Int} (h : k ≤ kM) : ∃ t, gf_laws_markText k = some t := by
  unfold gf_laws_markText
  by_cases h0 : k ≤ 0
  · exact ⟨_, by rw [if_pos (by simpa using h0)]⟩
  · rw [if_neg (by simpa using h0)]
    have e : k = ((k.toNat : Nat) : Int) := by omega
    have hz : (⟨#[]⟩ : Str).size = 0 := rfl
    have hm : (⟨#[109]⟩ : Str).size = 1 := rfl
    have hr : rounds = 4194303 + 1 := rfl
    obtain ⟨t, h1, h2⟩ := markText_loop 18 rounds k.toNat (⟨#[]⟩ : Str) (by
      have : (10 : Nat) ^ 18 = 1000000000000000000 := by decide
      unfold kM at h
      omega) (by omega) (by rw [hr]; omega) (by rw [hz]; omega)
    rw [← e] at h1
    obtain ⟨t2, h3, _⟩ := cat_some (a := (⟨#[109]⟩ : Str)) (b := t) (by rw [hm]; omega)
    exact ⟨t2, by rw [h1]; simp only [Option.bind_some, h3]⟩
theorem mk_loop {α : Type} {gl : Nat → Int → Int → List α → Option (Int × List α)} {hl : List α → Nat → Int → Int → Prop} {c w : α → Nat} (h0 : ∀ n k xs, gl (n + 1) k (xs.length : Int) xs = some (k, xs)) (hE : ∀ x k, w x ≤ 3145728 → 0 < k → k + c x ≤ kM → ∃ y, (∀ n (i : Nat) xs, xs[i]? = some x → i < 3145728 → gl (n + 1) k (i : Int) xs = gl n (k + c x) ((i + 1 : Nat) : Int) (xs.set i y)) ∧ ∀ l j K, hl l (j + 1) (k + c x) K → hl (y :: l) j k K) (hn : ∀ j k, hl [] j k k) :
    ∀ (rest pre : List α) (n : Nat) (k : Int), (∀ x ∈ rest, w x ≤ 3145728) → rest.length < n → pre.length + rest.length ≤ 3145728 → 0 < k → k + sumW c rest ≤ kM → ∃ rest', rest'.length = rest.length ∧ gl n k (pre.length : Int) (pre ++ rest) = some (k + sumW c rest, pre ++ rest') ∧ ∀ j, hl rest' j k (k + sumW c rest)
  | _, _, 0, _, _, h, _, _, _ => by omega
  | [], pre, n + 1, k, _, _, _, _, _ => ⟨[], rfl, by simpa [sumW] using h0 n k pre, fun j => by simpa [sumW] using hn j k⟩
  | x :: rest, pre, n + 1, k, hw, hl1, hlen, hk, hb => by
    have hs : sumW c (x :: rest) = c x + sumW c rest := rfl
    rw [hs] at hb ⊢
    obtain ⟨y, h1, h2⟩ := hE x k (hw x (by simp)) hk (by omega)
    simp only [List.length_cons] at hl1 hlen
    obtain ⟨r, h3, h4, h5⟩ := mk_loop h0 hE hn rest (pre ++ [y]) n (k + c x) (fun z hz => hw z (by simp [hz])) (by omega) (by simp; omega) (by omega) (by omega)
    have e0 : k + (((c x + sumW c rest : Nat)) : Int) = k + c x + sumW c rest := by omega
    refine ⟨y :: r, by simp [h3], ?_, fun j => by rw [e0]; exact h2 r j _ (h5 (j + 1))⟩
    rw [h1 n pre.length (pre ++ x :: rest) (by simp) (by omega)]
    have e1 : (pre ++ x :: rest).set pre.length y = pre ++ [y] ++ rest := by simp
    have e2 : ((pre.length + 1 : Nat) : Int) = ((pre ++ [y]).length : Int) := by simp
    rw [e1, e2, h4]
    simp only [List.append_assoc, List.singleton_append, Option.some.injEq, Prod.mk.injEq, and_true]
    omega
/-- What marks, and what is held of it: the count behind it, the same length, and that it is held. -/
def Mk {α : Type} (m : α → Int → Option (Int × α)) (hd : α → Int → Int → Prop) (c w : α → Nat) : Prop := ∀ x k, w x ≤ 3145728 → 0 < k → k + c x ≤ kM → ∃ y, m x k = some (k + c x, y) ∧ hd y k (k + c x)
def c1 {α : Type} (_ : α) : Nat := 1
def c2 {α : Type} (_ : α) : Nat := 2
def noh {α : Type} (_ : List α) (_ : Nat) (_ _ : Int) : Prop := True
theorem mk_list {α : Type} {gf : List α → Int → Option (Int × List α)} {gl : Nat → Int → Int → List α → Option (Int × List α)} {hl : List α → Nat → Int → Int → Prop} {c w : α → Nat} (hg : ∀ a k, gf a k = (gl rounds k 0 a).bind fun q => some (q.1, q.2)) (h0 : ∀ n k xs, gl (n + 1) k (xs.length : Int) xs = some (k, xs)) (hE : ∀ x k, w x ≤ 3145728 → 0 < k → k + c x ≤ kM → ∃ y, (∀ n (i : Nat) xs, xs[i]? = some x → i < 3145728 → gl (n + 1) k (i : Int) xs = gl n (k + c x) ((i + 1 : Nat) : Int) (xs.set i y)) ∧ ∀ l j K, hl l (j + 1) (k + c x) K → hl (y :: l) j k K) (hn : ∀ j k, hl [] j k k) : ∀ x k, wL w x ≤ 3145728 → 0 < k → k + sumW c x ≤ kM → ∃ y, gf x k = some (k + sumW c x, y) ∧ y.length = x.length ∧ hl y 0 k (k + sumW c x) := fun x k hw hk hb => by
  have hr : rounds = 4194303 + 1 := rfl
  have hlen : x.length ≤ 3145728 := by unfold wL at hw; omega
  obtain ⟨r, h1, h2, h3⟩ := mk_loop h0 hE hn x [] rounds k (fun y hy => by have := sum_mem (w := w) hy; unfold wL at hw; omega) (by rw [hr]; omega) (by simpa using hlen) hk hb
  refine ⟨r, ?_, h1, h3 0⟩
  rw [hg]
  simp only [List.nil_append, List.length_nil] at h2
  have h2' : gl rounds k 0 x = some (k + sumW c x, r) := h2
  rw [h2']
  rfl
theorem mw {k : Int} (h : 0 < k) (h2 : k ≤ kM) : IntKind.i64.wrap (k + 1) = k + 1 := by unfold kM at h2; exact wrap_id (by omega) (by omega)
theorem miw {i : Nat} (h : i < 3145728) : IntKind.i64.wrap ((i : Int) + 1) = ((i + 1 : Nat) : Int) := by rw [wrap_id (by omega) (by omega)]; omega
theorem lt_dec {α : Type} {xs : List α} {i : Nat} {x : α} (h : xs[i]? = some x) : decide ((i : Int) < (xs.length : Int)) = true := decide_eq_true (by have := get_lt h; omega)
theorem set_get {α : Type} {xs : List α} {i : Nat} {x y : α} (h : xs[i]? = some x) : (xs.set i y)[i]? = some y := List.getElem?_set_self (get_lt h)
theorem ge_dec {n : Nat} : decide ((n : Int) < (n : Int)) = false := decide_eq_false (by omega)
def hlInt (l : List Int) (j : Nat) (k K : Int) : Prop := gl_laws_heldIntS_1 l j k = some (.inr K)
theorem sum_c1 {α : Type} : ∀ l : List α, sumW (c1 (α := α)) l = l.length := fun l => by
  induction l with
  | nil => rfl
  | cons x l ih => simp only [sumW, ih, c1, List.length_cons]; omega
theorem mk_IntS {x : List Int} {k : Int} (hw : x.length ≤ 3145728) (hk : 0 < k) (hb : k + x.length ≤ kM) : ∃ y, gf_laws_markIntS x k = some (k + x.length, y) ∧ y.length = x.length ∧ gf_laws_heldIntS y k = some (k + x.length) := by
  obtain ⟨y, h1, h2, h3⟩ := mk_list (gf := gf_laws_markIntS) (hl := hlInt) (c := c1) (w := w0) (fun _ _ => rfl) (fun n k xs => by simp only [gl_laws_markIntS_1, ge_dec]; rfl) (fun x k _ hk hb => ⟨k, fun n i xs hx hi => by
    unfold c1 at hb ⊢
    simp only [gl_laws_markIntS_1, lt_dec hx, if_true, idx_nat, hx, Option.bind_some, mw hk (by omega), miw hi, Int.toNat_natCast, Int.natCast_one], fun l j K h => by
    unfold c1 at h hb
    unfold hlInt at h ⊢
    simp only [gl_laws_heldIntS_1, bne_self_eq_false, mw hk (by omega)]
    rw [if_neg (by decide)]
    simpa only [Int.natCast_one] using h⟩) (fun j k => rfl) x k (by unfold wL; rw [sum_w0]; exact hw) hk (by rw [sum_c1]; exact hb)
  rw [sum_c1] at h1 h3
  refine ⟨y, h1, h2, ?_⟩
  unfold hlInt at h3
  unfold gf_laws_heldIntS
  rw [if_pos (fits_mid (by omega)), h3]
  rfl
def cTag {α : Type} (_ : α) : Nat := 2
def cFeat (f : Feat) : Nat := 2 + (sumW c2 f.shape.pts + sumW c2 f.tags)
def cCommit (c : Commit) : Nat := sumW c1 c.up + (sumW cFeat c.sheet + 1)
def cRepo (r : Repo) : Nat := sumW cCommit r.commits + sumW c2 r.heads
theorem mkn_IntS {x : List Int} {k : Int} (hw : wL w0 x ≤ 3145728) (hk : 0 < k) (hb : k + sumW c1 x ≤ kM) : ∃ y, gf_laws_markIntS x k = some (k + sumW c1 x, y) := by
  obtain ⟨y, h, _⟩ := mk_list (gf := gf_laws_markIntS) (hl := noh) (c := c1) (w := w0) (fun _ _ => rfl) (fun n k xs => by simp only [gl_laws_markIntS_1, ge_dec]; rfl) (fun x k _ hk hb => ⟨k, fun n i xs hx hi => by
    unfold c1 at hb ⊢
    simp only [gl_laws_markIntS_1, lt_dec hx, if_true, idx_nat, hx, Option.bind_some, mw hk (by omega), miw hi, Int.toNat_natCast, Int.natCast_one], fun _ _ _ _ => trivial⟩) (fun _ _ => trivial) x k hw hk hb
  exact ⟨y, h⟩
theorem two_k {k : Int} : k + ((2 : Nat) : Int) = k + 1 + 1 := by omega
theorem mkn_PtS {x : List Pt} {k : Int} (hw : wL w0 x ≤ 3145728) (hk : 0 < k) (hb : k + sumW c2 x ≤ kM) : ∃ y, gf_laws_markPtS x k = some (k + sumW c2 x, y) := by
  obtain ⟨y, h, _⟩ := mk_list (gf := gf_laws_markPtS) (hl := noh) (c := c2) (w := w0) (fun _ _ => rfl) (fun n k xs => by simp only [gl_laws_markPtS_1, ge_dec]; rfl) (fun x k _ hk hb => by
    unfold c2 at hb ⊢
    refine ⟨⟨k, k + 1⟩, fun n i xs hx hi => ?_, fun _ _ _ _ => trivial⟩
    simp only [gl_laws_markPtS_1, lt_dec hx, if_true, idx_nat, hx, Option.bind_some, mw hk (by omega), mw (show 0 < k + 1 by omega) (by omega), miw hi, Int.toNat_natCast, set_get hx, List.set_set, two_k]) (fun _ _ => trivial) x k hw hk hb
  exact ⟨y, h⟩
theorem mkn_TagS {x : List Tag} {k : Int} (hw : wL wTag x ≤ 3145728) (hk : 0 < k) (hb : k + sumW c2 x ≤ kM) : ∃ y, gf_laws_markTagS x k = some (k + sumW c2 x, y) := by
  obtain ⟨y, h, _⟩ := mk_list (gf := gf_laws_markTagS) (hl := noh) (c := c2) (w := wTag) (fun _ _ => rfl) (fun n k xs => by simp only [gl_laws_markTagS_1, ge_dec]; rfl) (fun x k _ hk hb => by
    unfold c2 at hb ⊢
    obtain ⟨t1, h1⟩ := markText_ok (k := k) (by omega)
    obtain ⟨t2, h2⟩ := markText_ok (k := k + 1) (by omega)
    refine ⟨⟨t1, t2⟩, fun n i xs hx hi => ?_, fun _ _ _ _ => trivial⟩
    simp only [gl_laws_markTagS_1, lt_dec hx, if_true, idx_nat, hx, h1, h2, Option.bind_some, mw hk (by omega), mw (show 0 < k + 1 by omega) (by omega), miw hi, Int.toNat_natCast, set_get hx, List.set_set, two_k]) (fun _ _ => trivial) x k hw hk hb
  exact ⟨y, h⟩
theorem mkn_HeadS {x : List Head} {k : Int} (hw : wL wHead x ≤ 3145728) (hk : 0 < k) (hb : k + sumW c2 x ≤ kM) : ∃ y, gf_laws_markHeadS x k = some (k + sumW c2 x, y) := by
  obtain ⟨y, h, _⟩ := mk_list (gf := gf_laws_markHeadS) (hl := noh) (c := c2) (w := wHead) (fun _ _ => rfl) (fun n k xs => by simp only [gl_laws_markHeadS_1, ge_dec]; rfl) (fun x k _ hk hb => by
    unfold c2 at hb ⊢
    obtain ⟨t1, h1⟩ := markText_ok (k := k) (by omega)
    refine ⟨⟨t1, k + 1⟩, fun n i xs hx hi => ?_, fun _ _ _ _ => trivial⟩
    simp only [gl_laws_markHeadS_1, lt_dec hx, if_true, idx_nat, hx, h1, Option.bind_some, mw hk (by omega), mw (show 0 < k + 1 by omega) (by omega), miw hi, Int.toNat_natCast, set_get hx, List.set_set, two_k]) (fun _ _ => trivial) x k hw hk hb
  exact ⟨y, h⟩
theorem mkn_FeatS {x : List Feat} {k : Int} (hw : wL wFeat x ≤ 3145728) (hk : 0 < k) (hb : k + sumW cFeat x ≤ kM) : ∃ y, gf_laws_markFeatS x k = some (k + sumW cFeat x, y) := by
  obtain ⟨y, h, _⟩ := mk_list (gf := gf_laws_markFeatS) (hl := noh) (c := cFeat) (w := wFeat) (fun _ _ => rfl) (fun n k xs => by simp only [gl_laws_markFeatS_1, ge_dec]; rfl) (fun x k hwx hk hb => by
    unfold cFeat at hb ⊢
    unfold wFeat wShape at hwx
    obtain ⟨t1, h1⟩ := markText_ok (k := k) (by omega)
    obtain ⟨p, h2⟩ := mkn_PtS (x := x.shape.pts) (k := k + 1 + 1) (by omega) (by omega) (by omega)
    obtain ⟨q, h3⟩ := mkn_TagS (x := x.tags) (k := k + 1 + 1 + sumW c2 x.shape.pts) (by omega) (by omega) (by omega)
    refine ⟨⟨t1, ⟨k + 1, p⟩, q⟩, fun n i xs hx hi => ?_, fun _ _ _ _ => trivial⟩
    simp only [gl_laws_markFeatS_1, lt_dec hx, if_true, idx_nat, hx, h1, h2, h3, Option.bind_some, mw hk (by omega), mw (show 0 < k + 1 by omega) (by omega), miw hi, Int.toNat_natCast, set_get hx, List.set_set]
    congr 1
    omega) (fun _ _ => trivial) x k hw hk hb
  exact ⟨y, h⟩
theorem mkn_CommitS {x : List Commit} {k : Int} (hw : wL wCommit x ≤ 3145728) (hk : 0 < k) (hb : k + sumW cCommit x ≤ kM) : ∃ y, gf_laws_markCommitS x k = some (k + sumW cCommit x, y) := by
  obtain ⟨y, h, _⟩ := mk_list (gf := gf_laws_markCommitS) (hl := noh) (c := cCommit) (w := wCommit) (fun _ _ => rfl) (fun n k xs => by simp only [gl_laws_markCommitS_1, ge_dec]; rfl) (fun x k hwx hk hb => by
    unfold cCommit at hb ⊢
    unfold wCommit at hwx
    obtain ⟨p, h2⟩ := mkn_IntS (x := x.up) (k := k) (by omega) (by omega) (by omega)
    obtain ⟨q, h3⟩ := mkn_FeatS (x := x.sheet) (k := k + sumW c1 x.up) (by omega) (by omega) (by omega)
    obtain ⟨t1, h1⟩ := markText_ok (k := k + sumW c1 x.up + sumW cFeat x.sheet) (by omega)
    refine ⟨⟨p, q, t1⟩, fun n i xs hx hi => ?_, fun _ _ _ _ => trivial⟩
    simp only [gl_laws_markCommitS_1, lt_dec hx, if_true, idx_nat, hx, h1, h2, h3, Option.bind_some, mw (show 0 < k + sumW c1 x.up + sumW cFeat x.sheet by omega) (by omega), miw hi, Int.toNat_natCast, set_get hx, List.set_set]
    congr 1
    omega) (fun _ _ => trivial) x k hw hk hb
  exact ⟨y, h⟩
theorem mkn_Repo {x : Repo} {k : Int} (hw : wRepo x ≤ 3145728) (hk : 0 < k) (hb : k + cRepo x ≤ kM) : ∃ y, gf_laws_markRepo x k = some (k + cRepo x, y) := by
  unfold cRepo at hb ⊢
  unfold wRepo at hw
  obtain ⟨p, h2⟩ := mkn_CommitS (x := x.commits) (k := k) (by omega) (by omega) (by omega)
  obtain ⟨q, h3⟩ := mkn_HeadS (x := x.heads) (k := k + sumW cCommit x.commits) (by omega) (by omega) (by omega)
  refine ⟨⟨p, q⟩, ?_⟩
  unfold gf_laws_markRepo
  simp only [h2, h3, Option.bind_some, Option.some.injEq, Prod.mk.injEq, and_true]
  omega
theorem sum_le {α : Type} {c w : α → Nat} {a : Nat} (h : ∀ x, c x ≤ a + a * w x) : ∀ xs : List α, sumW c xs ≤ a * wL w xs
  | [] => by simp [sumW]
  | x :: xs => by
    have ih := sum_le h xs
    have := h x
    unfold wL at ih ⊢
    simp only [sumW, List.length_cons]
    have e : a * (xs.length + 1 + (w x + sumW w xs)) = a + a * w x + a * (xs.length + sumW w xs) := by
      rw [show xs.length + 1 + (w x + sumW w xs) = 1 + w x + (xs.length + sumW w xs) by omega, Nat.mul_add, Nat.mul_add, Nat.mul_one]
    omega
theorem cFeat_le (f : Feat) : cFeat f ≤ 2 + 2 * wFeat f := by
  have h1 := sum_le (c := c2) (w := w0) (a := 2) (fun x => by unfold c2; omega) f.shape.pts
  have h2 := sum_le (c := c2) (w := wTag) (a := 2) (fun x => by unfold c2; omega) f.tags
  unfold cFeat wFeat wShape
  omega
theorem cCommit_le (c : Commit) : cCommit c ≤ 2 + 2 * wCommit c := by
  have h1 := sum_le (c := c1) (w := w0) (a := 2) (fun x => by unfold c1; omega) c.up
  have h2 := sum_le (c := cFeat) (w := wFeat) (a := 2) (fun x => by have := cFeat_le x; omega) c.sheet
  unfold cCommit wCommit
  omega
theorem cRepo_le (r : Repo) : cRepo r ≤ 2 * wRepo r := by
  have h1 := sum_le (c := cCommit) (w := wCommit) (a := 2) (fun x => by have := cCommit_le x; omega) r.commits
  have h2 := sum_le (c := c2) (w := wHead) (a := 2) (fun x => by unfold c2; omega) r.heads
  unfold cRepo wRepo
  omega
theorem fst_cases {α : Type} {p : α → Bool} : ∀ {l : List α} {k : Nat}, fstFrom p l k = -1 ∨ ∃ j x, fstFrom p l k = ((k + j : Nat) : Int) ∧ l[j]? = some x ∧ p x = true
  | [], k => .inl rfl
  | x :: l, k => by
    simp only [fstFrom]
    by_cases h : p x = true
    · rw [if_pos h]
      exact .inr ⟨0, x, rfl, rfl, h⟩
    · rw [if_neg h]
      rcases fst_cases (p := p) (l := l) (k := k + 1) with h1 | ⟨j, y, h1, h2, h3⟩
      · exact .inl h1
      · exact .inr ⟨j + 1, y, by rw [h1]; congr 1; omega, by simpa using h2, h3⟩
theorem head_at {r : Repo} (hr : mRepo r = true) (n : Str) : mHead r.heads n = -1 ∨ ∃ (k a : Nat) (h : Head), mHead r.heads n = (k : Int) ∧ r.heads[k]? = some h ∧ h.name = n ∧ h.at_ = (a : Int) ∧ a < r.commits.length := by
  rcases fst_cases (p := fun x : Head => decide (x.name = n)) (l := r.heads) (k := 0) with h | ⟨j, x, h1, h2, h3⟩
  · exact .inl h
  · refine .inr ⟨j, x.at_.toNat, x, by unfold mHead; rw [h1]; simp, h2, by simpa using h3, ?_⟩
    unfold mRepo at hr
    simp only [Bool.and_eq_true] at hr
    have := allFrom_get hr.2.2.2.2.2 j x h2
    simp only [Bool.and_eq_true, decide_eq_true_eq] at this
    omega
/-- Where a branch is. -/
def mRepoAt (r : Repo) (n : Str) : Int := if mRepo r = true then (match idx r.heads (mHead r.heads n) with | some h => h.at_ | none => -1) else -1
theorem repoAt_cases (r : Repo) (n : Str) : (mRepoAt r n = -1 ∧ (mRepo r = true → mHead r.heads n = -1)) ∨ ∃ (k a : Nat) (h : Head), mRepo r = true ∧ mHead r.heads n = (k : Int) ∧ r.heads[k]? = some h ∧ h.name = n ∧ h.at_ = (a : Int) ∧ a < r.commits.length ∧ mRepoAt r n = (a : Int) := by
  by_cases hr : mRepo r = true
  · rcases head_at hr n with h | ⟨k, a, h, h1, h2, h3, h4, h5⟩
    · refine .inl ⟨?_, fun _ => h⟩
      unfold mRepoAt
      rw [if_pos hr, h]
      rfl
    · refine .inr ⟨k, a, h, hr, h1, h2, h3, h4, h5, ?_⟩
      unfold mRepoAt
      rw [if_pos hr, h1, idx_nat, h2]
      exact h4
  · exact .inl ⟨by unfold mRepoAt; rw [if_neg hr], fun h => absurd h hr⟩
theorem s_RepoAt {r : Repo} {n : Str} (hw : wRepo r ≤ 1048576) : gf_spec_RepoAt r n = some (mRepoAt r n) := by
  have hh : r.heads.length ≤ 1048576 := by unfold wRepo wL at hw; omega
  unfold gf_spec_RepoAt
  rw [s_l7Head hh, s_RepoOk hw]
  simp only [Option.bind_some]
  rcases repoAt_cases r n with ⟨h1, h2⟩ | ⟨k, a, h, hr, h1, h2, h3, h4, h5, h6⟩
  · rw [h1]
    by_cases hr : mRepo r = true
    · rw [hr, h2 hr]
      rfl
    · simp only [Bool.not_eq_true] at hr
      rw [hr]
      rfl
  · rw [h6, hr, h1]
    simp only [Bool.not_true]
    rw [if_neg (by decide), if_neg (by simp), idx_nat, h2]
    simp [h4]
def upL (p : Nat → Bool) : Nat → Nat → List Int
  | 0, _ => []
  | n + 1, k => if p k = true then (k : Int) :: upL p n (k + 1) else upL p n (k + 1)
theorem upL_len {p : Nat → Bool} : ∀ {n k : Nat}, (upL p n k).length ≤ n
  | 0, k => Nat.le_refl _
  | n + 1, k => by
    have := upL_len (p := p) (n := n) (k := k + 1)
    simp only [upL]
    split
    · simp; omega
    · omega
noncomputable def lackP (a b : List Commit) (t : Nat) (i : Nat) : Bool := trueAt (mark b [t]) i && decide (mSyncFind a b i < 0)
noncomputable def mLack (a b : List Commit) (t : Nat) : List Int := upL (lackP a b t) b.length 0
theorem i_SyncLack_1 {a b : Repo} (ha : mRepo a = true) (hb : mRepo b = true) (hwa : wRepo a ≤ 1048576) (hwb : wRepo b ≤ 1048576) {t : Nat} : ∀ (l : List Bool) (k : Nat) (out : List Int), (mark b.commits [t]).drop k = l → out.length + l.length ≤ 1048576 → gl_impl_SyncLack_1 a b l k out = some (out ++ upL (lackP a.commits b.commits t) l.length k)
  | [], k, out, h, ho => by simp [gl_impl_SyncLack_1, upL]
  | x :: l, k, out, h, ho => by
    have hx := drop_get h
    have hk := get_lt hx
    rw [mark_len] at hk
    have hin : (mRepo a && (mRepo b && (decide (0 ≤ (k : Int)) && decide ((k : Int) < (b.commits.length : Int))))) = true := by simp [ha, hb, hk]
    have hf := i_SyncFind (k := (k : Int)) hwa hwb
    rw [if_pos hin, Int.toNat_natCast] at hf
    simp only [List.length_cons] at ho
    simp only [gl_impl_SyncLack_1, hf, Option.bind_some, List.length_cons]
    cases x
    · rw [if_neg (by decide), i_SyncLack_1 ha hb hwa hwb l (k + 1) out (drop_next h) (by omega)]
      simp [upL, lackP, trueAt, hx]
    · rw [if_pos rfl]
      by_cases h1 : mSyncFind a.commits b.commits k < 0
      · rw [if_pos (by simpa using h1), if_pos (fits_small (by simp; omega)), i_SyncLack_1 ha hb hwa hwb l (k + 1) _ (drop_next h) (by simp; omega)]
        simp [upL, lackP, trueAt, hx, h1]
      · rw [if_neg (by simpa using h1), i_SyncLack_1 ha hb hwa hwb l (k + 1) out (drop_next h) (by omega)]
        simp [upL, lackP, trueAt, hx, h1]
theorem s_SyncLack_1 {a b : Repo} (ha : mRepo a = true) (hb : mRepo b = true) (hwa : wRepo a ≤ 1048576) {t : Nat} : ∀ (l : List Commit) (k : Nat) (out : List Int), b.commits.drop k = l → out.length + l.length ≤ 1048576 → gl_spec_SyncLack_1 (mark b.commits [t]) a b l k out = some (out ++ upL (lackP a.commits b.commits t) l.length k)
  | [], k, out, h, ho => by simp [gl_spec_SyncLack_1, upL]
  | x :: l, k, out, h, ho => by
    have hk := drop_len h
    obtain ⟨m, hm⟩ := getI (xs := mark b.commits [t]) (i := k) (by rw [mark_len]; exact hk)
    simp only [List.length_cons] at ho
    simp only [gl_spec_SyncLack_1, idx_nat, hm, s_l10Find ha hb hwa hk, Option.bind_some, List.length_cons]
    cases m
    · rw [if_neg (by decide), s_SyncLack_1 ha hb hwa l (k + 1) out (drop_next h) (by omega)]
      simp [upL, lackP, trueAt, hm]
    · rw [if_pos rfl]
      by_cases h1 : mSyncFind a.commits b.commits k < 0
      · rw [if_pos (by simpa using h1), if_pos (fits_small (by simp; omega)), s_SyncLack_1 ha hb hwa l (k + 1) _ (drop_next h) (by simp; omega)]
        simp [upL, lackP, trueAt, hm, h1]
      · rw [if_neg (by simpa using h1), s_SyncLack_1 ha hb hwa l (k + 1) out (drop_next h) (by omega)]
        simp [upL, lackP, trueAt, hm, h1]
noncomputable def mSyncLack (a b : Repo) (n : Str) : List Int := if mRepo a = true then (if mRepoAt b n < 0 then [] else mLack a.commits b.commits (mRepoAt b n).toNat) else []
theorem i_SyncLack {a b : Repo} {n : Str} (hwa : wRepo a ≤ 1048576) (hwb : wRepo b ≤ 1048576) : gf_impl_SyncLack a b n = some (mSyncLack a b n) := by
  have hh : b.heads.length ≤ 1048576 := by unfold wRepo wL at hwb; omega
  have hl : b.commits.length ≤ 1048576 := by unfold wRepo wL at hwb; omega
  unfold gf_impl_SyncLack mSyncLack
  rw [i_RepoOk hwa, i_RepoOk hwb, i_Repo_head hh]
  simp only [Option.bind_some]
  by_cases ha : mRepo a = true
  · rw [ha]
    simp only [Bool.not_true, if_true]
    rw [if_neg (by decide)]
    rcases repoAt_cases b n with ⟨h1, h2⟩ | ⟨k, t, h, hb, h1, h2, h3, h4, h5, h6⟩
    · rw [h1]
      by_cases hb : mRepo b = true
      · rw [hb, h2 hb]
        rfl
      · simp only [Bool.not_eq_true] at hb
        rw [hb]
        rfl
    · have hc := repo_hist hb
      rw [h6, hb, h1, idx_nat, h2]
      simp only [Bool.not_true, Option.bind_some, h4, i_past hc hl h5]
      rw [if_neg (by decide), if_neg (by simp), if_pos (fits_small (by rw [mark_len]; exact hl)), i_SyncLack_1 ha hb hwa hwb (mark b.commits [t]) 0 [] rfl (by rw [mark_len]; simpa using hl), mark_len, if_neg (by omega), Int.toNat_natCast]
      rfl
  · simp only [Bool.not_eq_true] at ha
    rw [ha]
    rfl
theorem s_SyncLack {a b : Repo} {n : Str} (hwa : wRepo a ≤ 1048576) (hwb : wRepo b ≤ 1048576) : gf_spec_SyncLack a b n = some (mSyncLack a b n) := by
  have hl : b.commits.length ≤ 1048576 := by unfold wRepo wL at hwb; omega
  unfold gf_spec_SyncLack mSyncLack
  rw [s_RepoAt hwb, s_RepoOk hwa]
  simp only [Option.bind_some]
  by_cases ha : mRepo a = true
  · rw [ha]
    simp only [Bool.not_true, if_true]
    rw [if_neg (by decide)]
    rcases repoAt_cases b n with ⟨h1, h2⟩ | ⟨k, t, h, hb, h1, h2, h3, h4, h5, h6⟩
    · rw [h1]
      rfl
    · have hc := repo_hist hb
      rw [h6, if_neg (by simp), if_neg (by omega), s_l7Marks1 hc hl h5, Int.toNat_natCast]
      simp only [Option.bind_some]
      rw [if_pos (fits_small hl), s_SyncLack_1 ha hb hwa b.commits 0 [] rfl (by simpa using hl)]
      rfl
  · simp only [Bool.not_eq_true] at ha
    rw [ha]
    rfl
theorem mSyncLack_len {a b : Repo} {n : Str} : (mSyncLack a b n).length ≤ b.commits.length := by
  unfold mSyncLack
  split
  · split
    · simp
    · exact upL_len
  · simp

theorem left2 {n : Int} {w : Nat} (h : ¬ (w : Int) ≤ n) : decide (left n w < 0) = true := by rw [left_neg h]; rfl
theorem left3 {n : Int} {w : Nat} (h : (w : Int) ≤ n) : left n w = n - w ∧ decide (left n w < 0) = false := by rw [left_pos h]; exact ⟨rfl, by simp; omega⟩
theorem eqI {l : List Int} (h : l.length ≤ 1048576) : gf_laws_eqIntS l l = some true := p_eqIntS l (by unfold wL; rw [sum_w0]; omega)
theorem law_FnExactSyncLack (a b : Repo) (n : Str) (ha : okRepo a) (hb : okRepo b) (_ : okS n) : gf_laws_FnExactSyncLack a b n = some true := by
  unfold gf_laws_FnExactSyncLack
  by_cases hn : (n.size : Int) > 1048576
  · rw [if_pos (by simpa using hn)]
  · rw [if_neg (by simpa using hn), p_szRepo a 1048576 ha (by decide) (by decide)]
    simp only [Option.bind_some]
    by_cases hw : (wRepo a : Int) ≤ 1048576
    · rw [(left3 hw).2, (left3 hw).1, p_szRepo b _ hb (by omega) (by omega)]
      simp only [Option.bind_some]
      by_cases hv : (wRepo b : Int) ≤ 1048576 - wRepo a
      · have h1 : wRepo a ≤ 1048576 := by omega
        have h2 : wRepo b ≤ 1048576 := by omega
        rw [(left3 hv).2]
        have hc1 := cRepo_le a
        have hc2 := cRepo_le b
        obtain ⟨x, hx⟩ := mkn_Repo (x := a) (k := 1) (by omega) (by decide) (by unfold kM; omega)
        obtain ⟨x2, hx2⟩ := mkn_Repo (x := b) (k := 1 + cRepo a) (by omega) (by omega) (by unfold kM; omega)
        have hl := mSyncLack_len (a := a) (b := b) (n := n)
        have hlb : b.commits.length ≤ 1048576 := by unfold wRepo wL at h2; omega
        have hs := s_SyncLack (a := a) (b := b) (n := n) h1 h2
        have hi := i_SyncLack (a := a) (b := b) (n := n) h1 h2
        generalize mSyncLack a b n = l at hl hs hi
        obtain ⟨y, hy1, hy2, hy3⟩ := mk_IntS (x := l) (k := 1) (by omega) (by decide) (by unfold kM; omega)
        have e1 : ¬ ((1 : Int) + cRepo a + cRepo b < 0) := by omega
        have e2 : ¬ ((1 : Int) + l.length < 0) := by omega
        simp [p_toRepo a h1, p_toRepo b h2, hs, hi, p_eqRepo a (by omega), p_eqRepo b (by omega), eqI (l := l) (by omega), hx, hx2, hy1, hy3, e1, e2]
      · rw [left2 hv]
        rfl
    · rw [left2 hw]
      rfl

end Go.Proofs.AM
