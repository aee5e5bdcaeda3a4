/- A part of the proofs of this seat's statements (KEP): lemmas on an abstract machine for the program's functions. Conditions: none. -/
import Derived.Test.YtbildbphkmdemaaGreatKED
import Derived.Test.YtbildbphkmdemaaGreatM2
set_option linter.unusedVariables false
set_option linter.unusedSimpArgs false
set_option maxRecDepth 10000
namespace Go.Proofs.AM
theorem p_szPtS : Sz gf_laws_szPtS (okL okPt) (wL w0) := sz_flat fun _ _ => rfl
theorem p_szTag : Sz gf_laws_szTag okTag wTag := by
  intro x n hx h0 hn
  unfold gf_laws_szTag
  refine sz_str hx.1 h0 hn fun m0 e0 a0 b0 => ?_
  rw [e0]
  refine sz_str hx.2 a0 b0 fun m1 e1 a1 b1 => ?_
  rw [e1]
  exact sz_end a1
theorem p_szShape : Sz gf_laws_szShape okShape wShape := by
  intro x n hx h0 hn
  unfold gf_laws_szShape
  refine sz_sub p_szPtS hx.2 h0 hn fun m0 a0 b0 => ?_
  exact sz_end a0
theorem p_szTagS : Sz gf_laws_szTagS (okL okTag) (wL wTag) := sz_list p_szTag (gl := gl_laws_szTagS_1) (fun _ _ => rfl) (fun _ _ _ _ => rfl) (fun _ _ => rfl)
theorem p_szFeat : Sz gf_laws_szFeat okFeat wFeat := by
  intro x n hx h0 hn
  unfold gf_laws_szFeat
  refine sz_str hx.1 h0 hn fun m0 e0 a0 b0 => ?_
  rw [e0]
  refine sz_sub p_szShape hx.2.1 a0 b0 fun m1 a1 b1 => ?_
  refine sz_sub p_szTagS hx.2.2 a1 b1 fun m2 a2 b2 => ?_
  exact sz_end a2
theorem p_szIntS : Sz gf_laws_szIntS (okL rI) (wL w0) := sz_flat fun _ _ => rfl
theorem p_szFeatS : Sz gf_laws_szFeatS (okL okFeat) (wL wFeat) := sz_list p_szFeat (gl := gl_laws_szFeatS_1) (fun _ _ => rfl) (fun _ _ _ _ => rfl) (fun _ _ => rfl)
theorem p_szCommit : Sz gf_laws_szCommit okCommit wCommit := by
  intro x n hx h0 hn
  unfold gf_laws_szCommit
  refine sz_sub p_szIntS hx.1 h0 hn fun m0 a0 b0 => ?_
  refine sz_sub p_szFeatS hx.2.1 a0 b0 fun m1 a1 b1 => ?_
  refine sz_str hx.2.2 a1 b1 fun m2 e2 a2 b2 => ?_
  rw [e2]
  exact sz_end a2
theorem p_szHead : Sz gf_laws_szHead okHead wHead := by
  intro x n hx h0 hn
  unfold gf_laws_szHead
  refine sz_str hx.1 h0 hn fun m0 e0 a0 b0 => ?_
  rw [e0]
  exact sz_end a0
theorem p_szCommitS : Sz gf_laws_szCommitS (okL okCommit) (wL wCommit) := sz_list p_szCommit (gl := gl_laws_szCommitS_1) (fun _ _ => rfl) (fun _ _ _ _ => rfl) (fun _ _ => rfl)
theorem p_szHeadS : Sz gf_laws_szHeadS (okL okHead) (wL wHead) := sz_list p_szHead (gl := gl_laws_szHeadS_1) (fun _ _ => rfl) (fun _ _ _ _ => rfl) (fun _ _ => rfl)
theorem p_toPt : Cp gf_laws_toPt w0 := fun _ _ => rfl
theorem p_toPtS : Cp gf_laws_toPtS (wL w0) := cp_list p_toPt (gl := gl_laws_toPtS_1) (fun _ _ => rfl) (fun _ _ _ _ => rfl) (fun _ => rfl)
theorem p_toTag : Cp gf_laws_toTag wTag := fun _ _ => rfl
theorem p_toShape : Cp gf_laws_toShape wShape := by
  intro x h
  unfold wShape at h
  have h0 := p_toPtS x.pts (by omega)
  simp only [gf_laws_toShape, h0, Option.bind_some]
theorem p_toTagS : Cp gf_laws_toTagS (wL wTag) := cp_list p_toTag (gl := gl_laws_toTagS_1) (fun _ _ => rfl) (fun _ _ _ _ => rfl) (fun _ => rfl)
theorem p_toFeat : Cp gf_laws_toFeat wFeat := by
  intro x h
  unfold wFeat at h
  have h1 := p_toShape x.shape (by omega)
  have h2 := p_toTagS x.tags (by omega)
  simp only [gf_laws_toFeat, h1, h2, Option.bind_some]
theorem p_toIntS : Cp gf_laws_toIntS (wL w0) := cp_list (cp_id (w := w0)) (gl := gl_laws_toIntS_1) (fun _ _ => rfl) (fun _ _ _ _ => rfl) (fun _ => rfl)
theorem p_toFeatS : Cp gf_laws_toFeatS (wL wFeat) := cp_list p_toFeat (gl := gl_laws_toFeatS_1) (fun _ _ => rfl) (fun _ _ _ _ => rfl) (fun _ => rfl)
theorem p_toCommit : Cp gf_laws_toCommit wCommit := by
  intro x h
  unfold wCommit at h
  have h0 := p_toIntS x.up (by omega)
  have h1 := p_toFeatS x.sheet (by omega)
  simp only [gf_laws_toCommit, h0, h1, Option.bind_some]
theorem p_toHead : Cp gf_laws_toHead wHead := fun _ _ => rfl
theorem p_toCommitS : Cp gf_laws_toCommitS (wL wCommit) := cp_list p_toCommit (gl := gl_laws_toCommitS_1) (fun _ _ => rfl) (fun _ _ _ _ => rfl) (fun _ => rfl)
theorem p_toHeadS : Cp gf_laws_toHeadS (wL wHead) := cp_list p_toHead (gl := gl_laws_toHeadS_1) (fun _ _ => rfl) (fun _ _ _ _ => rfl) (fun _ => rfl)
theorem p_eqPt : Eqs gf_laws_eqPt w0 := by
  intro x h
  simp [gf_laws_eqPt]
theorem p_eqPtS : Eqs gf_laws_eqPtS (wL w0) := eq_list p_eqPt (gl := gl_laws_eqPtS_1) (fun _ _ => rfl) (fun _ _ _ _ => rfl) (fun _ _ => rfl)
theorem p_eqTag : Eqs gf_laws_eqTag wTag := by
  intro x h
  simp [gf_laws_eqTag, seq_self]
theorem p_eqShape : Eqs gf_laws_eqShape wShape := by
  intro x h
  unfold wShape at h
  have h0 := p_eqPtS x.pts (by omega)
  simp [gf_laws_eqShape, h0]
theorem p_eqTagS : Eqs gf_laws_eqTagS (wL wTag) := eq_list p_eqTag (gl := gl_laws_eqTagS_1) (fun _ _ => rfl) (fun _ _ _ _ => rfl) (fun _ _ => rfl)
theorem p_eqFeat : Eqs gf_laws_eqFeat wFeat := by
  intro x h
  unfold wFeat at h
  have h1 := p_eqShape x.shape (by omega)
  have h2 := p_eqTagS x.tags (by omega)
  simp [gf_laws_eqFeat, seq_self, h1, h2]
theorem p_eqIntS : Eqs gf_laws_eqIntS (wL w0) := eq_list (eq_id (w := w0)) (gl := gl_laws_eqIntS_1) (fun _ _ => rfl) (fun _ _ _ _ => rfl) (fun _ _ => rfl)
theorem p_eqFeatS : Eqs gf_laws_eqFeatS (wL wFeat) := eq_list p_eqFeat (gl := gl_laws_eqFeatS_1) (fun _ _ => rfl) (fun _ _ _ _ => rfl) (fun _ _ => rfl)
theorem p_eqCommit : Eqs gf_laws_eqCommit wCommit := by
  intro x h
  unfold wCommit at h
  have h0 := p_eqIntS x.up (by omega)
  have h1 := p_eqFeatS x.sheet (by omega)
  simp [gf_laws_eqCommit, seq_self, h0, h1]
theorem p_eqHead : Eqs gf_laws_eqHead wHead := by
  intro x h
  simp [gf_laws_eqHead, seq_self]
theorem p_eqCommitS : Eqs gf_laws_eqCommitS (wL wCommit) := eq_list p_eqCommit (gl := gl_laws_eqCommitS_1) (fun _ _ => rfl) (fun _ _ _ _ => rfl) (fun _ _ => rfl)
theorem p_eqHeadS : Eqs gf_laws_eqHeadS (wL wHead) := eq_list p_eqHead (gl := gl_laws_eqHeadS_1) (fun _ _ => rfl) (fun _ _ _ _ => rfl) (fun _ _ => rfl)
theorem p_szRepo : Sz gf_laws_szRepo okRepo wRepo := by
  intro x n hx h0 hn
  unfold gf_laws_szRepo
  refine sz_sub p_szCommitS hx.1 h0 hn fun m0 a0 b0 => ?_
  refine sz_sub p_szHeadS hx.2 a0 b0 fun m1 a1 b1 => ?_
  exact sz_end a1
theorem p_toRepo : Cp gf_laws_toRepo wRepo := by
  intro x h
  unfold wRepo at h
  have h0 := p_toCommitS x.commits (by omega)
  have h1 := p_toHeadS x.heads (by omega)
  simp only [gf_laws_toRepo, h0, h1, Option.bind_some]
theorem p_eqRepo : Eqs gf_laws_eqRepo wRepo := by
  intro x h
  unfold wRepo at h
  have h0 := p_eqCommitS x.commits (by omega)
  have h1 := p_eqHeadS x.heads (by omega)
  simp [gf_laws_eqRepo, h0, h1]
theorem s_WordOk {s : Str} (h : s.size ≤ 1048576) : gf_spec_WordOk s = some (mWord s) := by
  unfold gf_spec_WordOk mWord
  rw [if_pos (fits_small h), loopB (gl := gl_spec_WordOk_1) (p := fun (b : UInt8) _ => decide (97 ≤ b.toNat) && decide (b.toNat ≤ 122)) (xs := s.data.toList) (fun _ => rfl) (fun x l k _ => ?_) s.data.toList 0 rfl]
  · have e1 : ((s.size : Int) ≥ 1) ↔ 1 ≤ s.size := by omega
    have e2 : ((s.size : Int) ≤ 6) ↔ s.size ≤ 6 := by omega
    cases allFrom (fun (b : UInt8) _ => decide (97 ≤ b.toNat) && decide (b.toNat ≤ 122)) s.data.toList 0
    · rfl
    · by_cases h1 : 1 ≤ s.size <;> simp [e1, e2, h1]
  · have e1 : ((x.toNat : Int) < 97) ↔ ¬ 97 ≤ x.toNat := by omega
    have e2 : ((x.toNat : Int) > 122) ↔ ¬ x.toNat ≤ 122 := by omega
    simp only [gl_spec_WordOk_1, e1, e2]
    by_cases h1 : 97 ≤ x.toNat <;> by_cases h2 : x.toNat ≤ 122 <;> simp [h1, h2]
theorem i_WordOk {s : Str} (h : s.size ≤ 1048576) : gf_impl_WordOk s = some (mWord s) := by
  unfold gf_impl_WordOk mWord
  rw [if_pos (fits_small h), loopB (gl := gl_impl_WordOk_1) (p := fun (b : UInt8) _ => decide (97 ≤ b.toNat) && decide (b.toNat ≤ 122)) (xs := s.data.toList) (fun _ => rfl) (fun x l k _ => ?_) s.data.toList 0 rfl]
  · have e1 : ((s.size : Int) ≥ 1) ↔ 1 ≤ s.size := by omega
    have e2 : ((s.size : Int) ≤ 6) ↔ s.size ≤ 6 := by omega
    cases allFrom (fun (b : UInt8) _ => decide (97 ≤ b.toNat) && decide (b.toNat ≤ 122)) s.data.toList 0
    · rfl
    · by_cases h1 : 1 ≤ s.size <;> simp [gf_impl_within, e1, e2, h1]
  · have e1 : ((x.toNat : Int) < 97) ↔ ¬ 97 ≤ x.toNat := by omega
    have e2 : ((x.toNat : Int) > 122) ↔ ¬ x.toNat ≤ 122 := by omega
    simp only [gl_impl_WordOk_1, e1, e2]
    by_cases h1 : 97 ≤ x.toNat <;> by_cases h2 : x.toNat ≤ 122 <;> simp [h1, h2]
theorem s_l1Num (n : Int) : gf_spec_l1Num n = some (mNum n) := by
  unfold gf_spec_l1Num mNum
  by_cases h : -1000 ≤ n <;> simp [h]
theorem i_within (n a b : Int) : gf_impl_within n a b = some (decide (a ≤ n) && decide (n ≤ b)) := by
  unfold gf_impl_within
  by_cases h : a ≤ n <;> simp [h]
theorem s_l1Pts {xs : List Pt} (h : xs.length ≤ 1048576) : gf_spec_l1Pts xs = some (mPts xs && decide (xs.length ≤ 6)) := by
  unfold gf_spec_l1Pts mPts
  rw [if_pos (fits_small h), loopB (gl := gl_spec_l1Pts_1 xs) (p := fun p k => mNum p.x && (mNum p.y && (decide (k = 0) || decide (xs[k - 1]? ≠ some p)))) (xs := xs) (fun _ => rfl) (fun x l k hd => ?_) xs 0 rfl]
  · rw [show decide ((xs.length : Int) ≤ 6) = decide (xs.length ≤ 6) from decI]
    exact endB
  · simp only [gl_spec_l1Pts_1, s_l1Num, Option.bind_some, ptb, posI]
    rcases Nat.eq_zero_or_pos k with rfl | hk
    · cases mNum x.x <;> cases mNum x.y <;> simp
    · obtain ⟨y, hy⟩ := drop_prev hd hk
      have hl := drop_len hd
      have hw := wrap_pred hk (by omega)
      rw [hw, idx_nat, hy]
      have hk' : ¬ k = 0 := by omega
      by_cases e : x = y
      · subst e
        cases mNum x.x <;> cases mNum x.y <;> simp [hk, hk', hy]
      · have e' : ¬ y = x := fun h => e h.symm
        cases mNum x.x <;> cases mNum x.y <;> simp [hk, hk', hy, e, e']
theorem s_ShapeOk {x : Shape} (h : x.pts.length ≤ 1048576) : gf_spec_ShapeOk x = some (mShape x) := by
  unfold gf_spec_ShapeOk mShape
  rw [s_l1Pts h]
  simp only [Option.bind_some, ptb]
  have c1 : ((x.pts.length : Int) == 1) = decide (x.pts.length = 1) := by
    by_cases e : x.pts.length = 1 <;> simp [e] <;> omega
  have c2 : ((x.pts.length : Int) ≥ 2) ↔ 2 ≤ x.pts.length := by omega
  have c3 : ((x.pts.length : Int) ≥ 3) ↔ 3 ≤ x.pts.length := by omega
  cases mPts x.pts
  · simp
  · by_cases hl : x.pts.length ≤ 6
    · by_cases k1 : x.kind = 1
      · simp [k1, hl, c1]
      · by_cases k2 : x.kind = 2
        · simp [k2, hl, c2]
        · by_cases k3 : x.kind = 3
          · by_cases h3 : 3 ≤ x.pts.length
            · obtain ⟨p, hp⟩ : ∃ p, x.pts[0]? = some p := ⟨x.pts[0], List.getElem?_eq_getElem (by omega)⟩
              obtain ⟨q, hq⟩ : ∃ p, x.pts[x.pts.length - 1]? = some p := ⟨x.pts[x.pts.length - 1], List.getElem?_eq_getElem (by omega)⟩
              have hw := wrap_pred (k := x.pts.length) (by omega) (by omega)
              have e0 : idx x.pts 0 = some p := by rw [← hp]; exact idx_nat (k := 0)
              have e1 : idx x.pts ((x.pts.length - 1 : Nat) : Int) = some q := by rw [← hq]; exact idx_nat
              rw [hw]
              simp [k3, hl, c3, h3, e0, e1, hp, hq]
            · simp [k3, hl, c3, h3]
          · simp [k1, k2, k3, hl]
    · simp [hl]
theorem i_ptOk (p : Pt) : gf_impl_ptOk p = some (mNum p.x && mNum p.y) := by
  unfold gf_impl_ptOk mNum
  rw [i_within, i_within]
  simp only [Option.bind_some]
  cases (decide (-1000 ≤ p.x) && decide (p.x ≤ 1000)) <;> simp
theorem i_ShapeOk {x : Shape} (h : x.pts.length ≤ 1048576) : gf_impl_ShapeOk x = some (mShape x) := by
  unfold gf_impl_ShapeOk mShape
  have c1 : ((x.pts.length : Int) == 1) = decide (x.pts.length = 1) := by
    by_cases e : x.pts.length = 1 <;> simp [e] <;> omega
  have c2 : ((2 : Int) ≤ (x.pts.length : Int)) ↔ 2 ≤ x.pts.length := by omega
  have c3 : ((3 : Int) ≤ (x.pts.length : Int)) ↔ 3 ≤ x.pts.length := by omega
  have c6 : ((x.pts.length : Int) ≤ 6) ↔ x.pts.length ≤ 6 := by omega
  rw [if_pos (fits_small h), loopB (gl := gl_impl_ShapeOk_1 x) (p := fun p k => mNum p.x && (mNum p.y && (decide (k = 0) || decide (x.pts[k - 1]? ≠ some p)))) (xs := x.pts) (fun _ => rfl) (fun y l k hd => ?_) x.pts 0 rfl]
  · show _ = some (mPts x.pts && _)
    have hm : allFrom (fun (p : Pt) k => mNum p.x && (mNum p.y && (decide (k = 0) || decide (x.pts[k - 1]? ≠ some p)))) x.pts 0 = mPts x.pts := rfl
    rw [hm]
    cases mPts x.pts
    · rfl
    · simp only [if_true, Option.bind_some, ptb, i_within]
      by_cases k1 : x.kind = 1
      · by_cases e : x.pts.length = 1 <;> simp [k1, c1, e]
      · by_cases k2 : x.kind = 2
        · by_cases e : x.pts.length ≤ 6 <;> simp [k2, c2, c6, e]
        · by_cases k3 : x.kind = 3
          · by_cases h3 : 3 ≤ x.pts.length
            · obtain ⟨p, hp⟩ : ∃ p, x.pts[0]? = some p := ⟨x.pts[0], List.getElem?_eq_getElem (by omega)⟩
              obtain ⟨q, hq⟩ : ∃ p, x.pts[x.pts.length - 1]? = some p := ⟨x.pts[x.pts.length - 1], List.getElem?_eq_getElem (by omega)⟩
              have hw := wrap_pred (k := x.pts.length) (by omega) (by omega)
              have e0 : idx x.pts 0 = some p := by rw [← hp]; exact idx_nat (k := 0)
              have e1 : idx x.pts ((x.pts.length - 1 : Nat) : Int) = some q := by rw [← hq]; exact idx_nat
              rw [hw]
              by_cases e : x.pts.length ≤ 6 <;> simp [k3, c3, c6, h3, e0, e1, hp, hq, e]
            · simp [k3, c3, c6, h3]
          · simp [k1, k2, k3]
  · simp only [gl_impl_ShapeOk_1, i_ptOk, Option.bind_some, ptb, posI]
    rcases Nat.eq_zero_or_pos k with rfl | hk
    · cases mNum y.x <;> cases mNum y.y <;> simp
    · obtain ⟨z, hz⟩ := drop_prev hd hk
      have hl := drop_len hd
      have hw := wrap_pred hk (by omega)
      rw [hw, idx_nat, hz]
      have hk' : ¬ k = 0 := by omega
      by_cases e : z = y <;> cases mNum y.x <;> cases mNum y.y <;> simp [hk, hk', hz, e]
theorem s_l2Tags {ts : List Tag} (h : wL wTag ts ≤ 1048576) : gf_spec_l2Tags ts = some (mTags ts && decide (ts.length ≤ 4)) := by
  have hlen : ts.length ≤ 1048576 := by unfold wL at h; omega
  unfold gf_spec_l2Tags mTags
  rw [if_pos (fits_small hlen), loopB (gl := gl_spec_l2Tags_1 ts) (p := fun t k => mWord t.key && (mWord t.val && (decide (k = 0) || mPrev Tag.key ts t k))) (xs := ts) (fun _ => rfl) (fun x l k hd => ?_) ts 0 rfl]
  · rw [show decide ((ts.length : Int) ≤ 4) = decide (ts.length ≤ 4) from decI]
    exact endB
  · have hx : x ∈ ts := List.mem_of_getElem? (drop_get hd)
    have hs := sum_mem (w := wTag) hx
    unfold wL at h
    have hk1 : x.key.size ≤ 1048576 := by have e0 : wTag x = x.key.size + (x.val.size + 0) := rfl; omega
    have hk2 : x.val.size ≤ 1048576 := by have e0 : wTag x = x.key.size + (x.val.size + 0) := rfl; omega
    simp only [gl_spec_l2Tags_1, s_WordOk hk1, s_WordOk hk2, Option.bind_some, posI, slt_seq]
    rcases Nat.eq_zero_or_pos k with rfl | hk
    · cases mWord x.key <;> cases mWord x.val <;> simp
    · obtain ⟨z, hz⟩ := drop_prev hd hk
      have hl := drop_len hd
      have hw := wrap_pred hk (by omega)
      rw [hw, idx_nat, hz]
      have hk' : ¬ k = 0 := by omega
      cases e : slt z.key x.key <;> cases mWord x.key <;> cases mWord x.val <;> simp [hk, hk', hz, e, mPrev]
theorem s_FeatOk {f : Feat} (h : wFeat f ≤ 1048576) : gf_spec_FeatOk f = some (mFeat f) := by
  unfold wFeat wShape at h
  have h1 : f.id.size ≤ 1048576 := by omega
  have h2 : f.shape.pts.length ≤ 1048576 := by unfold wL at h; omega
  unfold gf_spec_FeatOk mFeat
  rw [s_WordOk h1, s_ShapeOk h2, s_l2Tags (by omega)]
  simp only [Option.bind_some]
  cases mWord f.id <;> cases mShape f.shape <;> simp
theorem i_FeatOk {f : Feat} (h : wFeat f ≤ 1048576) : gf_impl_FeatOk f = some (mFeat f) := by
  unfold wFeat wShape at h
  have h1 : f.id.size ≤ 1048576 := by omega
  have h2 : f.shape.pts.length ≤ 1048576 := by unfold wL at h; omega
  have h3 : wL wTag f.tags ≤ 1048576 := by omega
  have hlen : f.tags.length ≤ 1048576 := by unfold wL at h3; omega
  unfold gf_impl_FeatOk mFeat
  rw [if_pos (fits_small hlen), loopB (gl := gl_impl_FeatOk_1 f) (p := fun t k => mWord t.key && (mWord t.val && (decide (k = 0) || mPrev Tag.key f.tags t k))) (xs := f.tags) (fun _ => rfl) (fun x l k hd => ?_) f.tags 0 rfl]
  · have hm : allFrom (fun (t : Tag) k => mWord t.key && (mWord t.val && (decide (k = 0) || mPrev Tag.key f.tags t k))) f.tags 0 = mTags f.tags := rfl
    rw [hm, i_WordOk h1, i_ShapeOk h2]
    rw [show decide ((f.tags.length : Int) ≤ 4) = decide (f.tags.length ≤ 4) from decI]
    cases mTags f.tags <;> cases mWord f.id <;> cases mShape f.shape <;> simp
  · have hx : x ∈ f.tags := List.mem_of_getElem? (drop_get hd)
    have hs := sum_mem (w := wTag) hx
    unfold wL at h3
    have hk1 : x.key.size ≤ 1048576 := by have e0 : wTag x = x.key.size + (x.val.size + 0) := rfl; omega
    have hk2 : x.val.size ≤ 1048576 := by have e0 : wTag x = x.key.size + (x.val.size + 0) := rfl; omega
    simp only [gl_impl_FeatOk_1, i_WordOk hk1, i_WordOk hk2, Option.bind_some, posI]
    rcases Nat.eq_zero_or_pos k with rfl | hk
    · cases mWord x.key <;> cases mWord x.val <;> simp
    · obtain ⟨z, hz⟩ := drop_prev hd hk
      have hl := drop_len hd
      have hw := wrap_pred hk (by omega)
      rw [hw, idx_nat, hz]
      have hk' : ¬ k = 0 := by omega
      cases e : slt z.key x.key <;> cases mWord x.key <;> cases mWord x.val <;> simp [hk, hk', hz, e, mPrev]
theorem s_SheetOk {fs : List Feat} (h : wL wFeat fs ≤ 1048576) : gf_spec_SheetOk fs = some (mSheet fs) := by
  have hlen : fs.length ≤ 1048576 := by unfold wL at h; omega
  unfold gf_spec_SheetOk mSheet
  rw [if_pos (fits_small hlen), loopB (gl := gl_spec_SheetOk_1 fs) (p := fun f k => mFeat f && (decide (k = 0) || mPrev Feat.id fs f k)) (xs := fs) (fun _ => rfl) (fun x l k hd => ?_) fs 0 rfl]
  · rw [show decide ((fs.length : Int) ≤ 8) = decide (fs.length ≤ 8) from decI]
    exact endB
  · have hx : x ∈ fs := List.mem_of_getElem? (drop_get hd)
    have hs := sum_mem (w := wFeat) hx
    unfold wL at h
    simp only [gl_spec_SheetOk_1, s_FeatOk (f := x) (by omega), Option.bind_some, posI, slt_seq]
    rcases Nat.eq_zero_or_pos k with rfl | hk
    · cases mFeat x <;> simp
    · obtain ⟨z, hz⟩ := drop_prev hd hk
      have hl := drop_len hd
      have hw := wrap_pred hk (by omega)
      rw [hw, idx_nat, hz]
      have hk' : ¬ k = 0 := by omega
      cases e : slt z.id x.id <;> cases mFeat x <;> simp [hk, hk', hz, e, mPrev]
theorem i_SheetOk {fs : List Feat} (h : wL wFeat fs ≤ 1048576) : gf_impl_SheetOk fs = some (mSheet fs) := by
  have hlen : fs.length ≤ 1048576 := by unfold wL at h; omega
  unfold gf_impl_SheetOk mSheet
  rw [if_pos (fits_small hlen), loopB (gl := gl_impl_SheetOk_1 fs) (p := fun f k => mFeat f && (decide (k = 0) || mPrev Feat.id fs f k)) (xs := fs) (fun _ => rfl) (fun x l k hd => ?_) fs 0 rfl]
  · rw [show decide ((fs.length : Int) ≤ 8) = decide (fs.length ≤ 8) from decI]
    exact endB
  · have hx : x ∈ fs := List.mem_of_getElem? (drop_get hd)
    have hs := sum_mem (w := wFeat) hx
    unfold wL at h
    simp only [gl_impl_SheetOk_1, i_FeatOk (f := x) (by omega), Option.bind_some, posI, slt_seq]
    rcases Nat.eq_zero_or_pos k with rfl | hk
    · cases mFeat x <;> simp
    · obtain ⟨z, hz⟩ := drop_prev hd hk
      have hl := drop_len hd
      have hw := wrap_pred hk (by omega)
      rw [hw, idx_nat, hz]
      have hk' : ¬ k = 0 := by omega
      cases e : slt z.id x.id <;> cases mFeat x <;> simp [hk, hk', hz, e, mPrev]
theorem s_l1Same {a b : List Pt} (h : a.length ≤ 1048576) : gf_spec_l1Same a b = some (decide (a = b)) := eqd_list (gl := gl_spec_l1Same_1) (ok := fun _ => True) (fun _ _ => rfl) (fun a x l k y _ hy => by
  simp only [gl_spec_l1Same_1, idx_nat, hy, Option.bind_some, ptb]
  by_cases e : x = y <;> simp [e]) (fun _ _ => rfl) h (fun _ _ => trivial)
theorem i_EqPt {a b : List Pt} (h : a.length ≤ 1048576) : gf_slices_Equal_impl_Pt_impl_Pt a b = some (decide (a = b)) := eqd_list (gl := gl_slices_Equal_impl_Pt_impl_Pt_1) (ok := fun _ => True) (fun _ _ => rfl) (fun a x l k y _ hy => by
  simp only [gl_slices_Equal_impl_Pt_impl_Pt_1, idx_nat, hy, Option.bind_some, ptb]
  by_cases e : x = y <;> simp [e]) (fun _ _ => rfl) h (fun _ _ => trivial)
theorem s_l2Same {a b : List Tag} (h : a.length ≤ 1048576) : gf_spec_l2Same a b = some (decide (a = b)) := eqd_list (gl := gl_spec_l2Same_1) (ok := fun _ => True) (fun _ _ => rfl) (fun a x l k y _ hy => by
  simp only [gl_spec_l2Same_1, idx_nat, hy, Option.bind_some, tagb]
  by_cases e : x = y <;> simp [e]) (fun _ _ => rfl) h (fun _ _ => trivial)
theorem i_EqTag {a b : List Tag} (h : a.length ≤ 1048576) : gf_slices_Equal_impl_Tag_impl_Tag a b = some (decide (a = b)) := eqd_list (gl := gl_slices_Equal_impl_Tag_impl_Tag_1) (ok := fun _ => True) (fun _ _ => rfl) (fun a x l k y _ hy => by
  simp only [gl_slices_Equal_impl_Tag_impl_Tag_1, idx_nat, hy, Option.bind_some, tagb]
  by_cases e : x = y <;> simp [e]) (fun _ _ => rfl) h (fun _ _ => trivial)
theorem s_l7Ints {a b : List Int} (h : a.length ≤ 1048576) : gf_spec_l7Ints a b = some (decide (a = b)) := eqd_list (gl := gl_spec_l7Ints_1) (ok := fun _ => True) (fun _ _ => rfl) (fun a x l k y _ hy => by
  simp only [gl_spec_l7Ints_1, idx_nat, hy, Option.bind_some]
  by_cases e : x = y <;> simp [e]) (fun _ _ => rfl) h (fun _ _ => trivial)
theorem i_EqInt {a b : List Int} (h : a.length ≤ 1048576) : gf_slices_Equal_int_int a b = some (decide (a = b)) := eqd_list (gl := gl_slices_Equal_int_int_1) (ok := fun _ => True) (fun _ _ => rfl) (fun a x l k y _ hy => by
  simp only [gl_slices_Equal_int_int_1, idx_nat, hy, Option.bind_some]
  by_cases e : x = y <;> simp [e]) (fun _ _ => rfl) h (fun _ _ => trivial)
theorem s_ShapeSame {a b : Shape} (h : a.pts.length ≤ 1048576) : gf_spec_ShapeSame a b = some (decide (a = b)) := by
  unfold gf_spec_ShapeSame
  rw [s_l1Same h]
  obtain ⟨k, p⟩ := a; obtain ⟨k2, p2⟩ := b
  by_cases h1 : k = k2 <;> by_cases h2 : p = p2 <;> simp [h1, h2]
theorem s_FeatSame {a b : Feat} (h : wFeat a ≤ 1048576) : gf_spec_FeatSame a b = some (decide (a = b)) := by
  unfold wFeat wShape wL at h
  unfold gf_spec_FeatSame
  rw [s_ShapeSame (by omega), s_l2Same (by omega), seq_dec]
  obtain ⟨i, s, t⟩ := a; obtain ⟨i2, s2, t2⟩ := b
  by_cases h1 : i = i2 <;> by_cases h2 : s = s2 <;> by_cases h3 : t = t2 <;> simp [h1, h2, h3]
theorem i_ShapeSame {a b : Shape} (h : a.pts.length ≤ 1048576) : gf_impl_ShapeSame a b = some (decide (a = b)) := by
  unfold gf_impl_ShapeSame
  rw [i_EqPt h]
  obtain ⟨k, p⟩ := a; obtain ⟨k2, p2⟩ := b
  by_cases h1 : k = k2 <;> by_cases h2 : p = p2 <;> simp [h1, h2]
theorem i_FeatSame {a b : Feat} (h : wFeat a ≤ 1048576) : gf_impl_FeatSame a b = some (decide (a = b)) := by
  unfold wFeat wShape wL at h
  unfold gf_impl_FeatSame
  rw [i_ShapeSame (by omega), i_EqTag (by omega), seq_dec]
  obtain ⟨i, s, t⟩ := a; obtain ⟨i2, s2, t2⟩ := b
  by_cases h1 : i = i2 <;> by_cases h2 : s = s2 <;> by_cases h3 : t = t2 <;> simp [h1, h2, h3]
theorem s_SheetSame {a b : List Feat} (h : wL wFeat a ≤ 1048576) : gf_spec_SheetSame a b = some (decide (a = b)) := eqd_list (gl := gl_spec_SheetSame_1) (ok := fun x => wFeat x ≤ 1048576) (fun _ _ => rfl) (fun a x l k y hx hy => by
  simp only [gl_spec_SheetSame_1, idx_nat, hy, Option.bind_some, s_FeatSame hx]
  by_cases e : x = y <;> simp [e]) (fun _ _ => rfl) (by unfold wL at h; omega) (fun x hx => by have := sum_mem (w := wFeat) hx; unfold wL at h; omega)
theorem i_EqFeat {a b : List Feat} (h : wL wFeat a ≤ 1048576) : gf_slices_EqualFunc_impl_Feat_impl_Feat_impl_Feat_impl_Feat__impl_FeatSame a b = some (decide (a = b)) := eqd_list (gl := gl_slices_EqualFunc_impl_Feat_impl_Feat_impl_Feat_impl_Feat__impl_FeatSame_1) (ok := fun x => wFeat x ≤ 1048576) (fun _ _ => rfl) (fun a x l k y hx hy => by
  simp only [gl_slices_EqualFunc_impl_Feat_impl_Feat_impl_Feat_impl_Feat__impl_FeatSame_1, idx_nat, hy, Option.bind_some, i_FeatSame hx]
  by_cases e : x = y <;> simp [e]) (fun _ _ => rfl) (by unfold wL at h; omega) (fun x hx => by have := sum_mem (w := wFeat) hx; unfold wL at h; omega)
theorem i_SheetSame {a b : List Feat} (h : wL wFeat a ≤ 1048576) : gf_impl_SheetSame a b = some (decide (a = b)) := by
  unfold gf_impl_SheetSame
  rw [i_EqFeat h]
  rfl
theorem s_sameCommit {a b : Commit} (h : wCommit a ≤ 1048576) : gf_spec_l7Same a b = some (decide (a = b)) := by
  unfold wCommit at h
  unfold gf_spec_l7Same
  rw [s_l7Ints (by unfold wL at h; omega), s_SheetSame (by omega), seq_dec]
  obtain ⟨i, s, t⟩ := a; obtain ⟨i2, s2, t2⟩ := b
  by_cases h1 : i = i2 <;> by_cases h2 : s = s2 <;> by_cases h3 : t = t2 <;> simp [h1, h2, h3]
theorem i_sameCommit {a b : Commit} (h : wCommit a ≤ 1048576) : gf_impl_sameCommit a b = some (decide (a = b)) := by
  unfold wCommit at h
  unfold gf_impl_sameCommit
  rw [i_EqInt (by unfold wL at h; omega), i_SheetSame (by omega), seq_dec]
  obtain ⟨i, s, t⟩ := a; obtain ⟨i2, s2, t2⟩ := b
  by_cases h1 : i = i2 <;> by_cases h2 : s = s2 <;> by_cases h3 : t = t2 <;> simp [h1, h2, h3]
theorem s_l7Find {r : Repo} {c : Commit} (h : wL wCommit r.commits ≤ 1048576) : gf_spec_l7Find r c = some (mFind r.commits c) := by
  unfold gf_spec_l7Find mFind
  rw [if_pos (fits_small (by unfold wL at h; omega))]
  exact loopF (gl := gl_spec_l7Find_1 c) (ok := fun x => wCommit x ≤ 1048576) (fun _ => rfl) (fun x l k hx => by simp only [gl_spec_l7Find_1, s_sameCommit hx, Option.bind_some]) _ 0 fun x hx => by have := sum_mem (w := wCommit) hx; unfold wL at h; omega
theorem i_Repo_commit {r : Repo} {c : Commit} (h : wL wCommit r.commits ≤ 1048576) : gf_impl_Repo_commit r c = some (mFind r.commits c) := by
  have key : gf_slices_IndexFunc_impl_Commit_impl_Commit__impl_Repo_commit_1 r.commits c = some (mFind r.commits c) := by
    unfold gf_slices_IndexFunc_impl_Commit_impl_Commit__impl_Repo_commit_1 mFind
    rw [if_pos (fits_small (by unfold wL at h; omega))]
    exact loopF (gl := gl_slices_IndexFunc_impl_Commit_impl_Commit__impl_Repo_commit_1_1 c) (ok := fun x => wCommit x ≤ 1048576) (fun _ => rfl) (fun x l k hx => by simp only [gl_slices_IndexFunc_impl_Commit_impl_Commit__impl_Repo_commit_1_1, gf_impl_Repo_commit_1, i_sameCommit hx, Option.bind_some]) _ 0 fun x hx => by have := sum_mem (w := wCommit) hx; unfold wL at h; omega
  unfold gf_impl_Repo_commit
  rw [key]
  rfl
theorem s_l7Head {r : Repo} {n : Str} (h : r.heads.length ≤ 1048576) : gf_spec_l7Head r n = some (mHead r.heads n) := by
  unfold gf_spec_l7Head mHead
  rw [if_pos (fits_small h)]
  exact loopF (gl := gl_spec_l7Head_1 n) (ok := fun _ => True) (fun _ => rfl) (fun x l k _ => by simp only [gl_spec_l7Head_1, seq_dec]) _ 0 fun _ _ => trivial
theorem i_Repo_head {r : Repo} {n : Str} (h : r.heads.length ≤ 1048576) : gf_impl_Repo_head r n = some (mHead r.heads n) := by
  have key : gf_slices_IndexFunc_impl_Head_impl_Head__impl_Repo_head_1 r.heads n = some (mHead r.heads n) := by
    unfold gf_slices_IndexFunc_impl_Head_impl_Head__impl_Repo_head_1 mHead
    rw [if_pos (fits_small h)]
    exact loopF (gl := gl_slices_IndexFunc_impl_Head_impl_Head__impl_Repo_head_1_1 n) (ok := fun _ => True) (fun _ => rfl) (fun x l k _ => by simp only [gl_slices_IndexFunc_impl_Head_impl_Head__impl_Repo_head_1_1, gf_impl_Repo_head_1, seq_dec, Option.bind_some]) _ 0 fun _ _ => trivial
  unfold gf_impl_Repo_head
  rw [key]
  rfl
theorem s_l7Up {up : List Int} {k : Nat} (h : up.length ≤ 1048576) : gf_spec_l7Up up (k : Int) = some (mUp up k) := by
  unfold gf_spec_l7Up mUp
  rw [if_pos (fits_small h), loopB (gl := gl_spec_l7Up_1 (k : Int)) (p := fun (x : Int) _ => decide (0 ≤ x) && decide (x < (k : Int))) (xs := up) (fun _ => rfl) (fun x l j _ => ?_) up 0 rfl]
  · generalize allFrom (fun (x : Int) _ => decide (0 ≤ x) && decide (x < (k : Int))) up 0 = A
    cases A
    · rfl
    · have e1 : decide ((k : Int) > 0) = decide (0 < k) := posI
      match up with
      | [] => cases e : decide (0 < k) <;> simp [e1, e]
      | [a] => cases e : decide (0 < k) <;> simp [e1, e]
      | [a, b] =>
        have i0 : idx [a, b] 0 = some a := rfl
        have i1 : idx [a, b] 1 = some b := rfl
        by_cases e2 : a = b
        · subst e2
          cases e : decide (0 < k) <;> simp [e1, e, i0, i1]
        · cases e : decide (0 < k) <;> simp [e1, e, i0, i1, e2]
      | a :: b :: c :: l =>
        have e2 : ¬ ((l.length : Int) + 1 + 1 + 1 ≤ 2) := by omega
        simp [e2]
  · have e1 : (x ≥ (k : Int)) ↔ ¬ x < (k : Int) := by omega
    have e2 : (x < 0) ↔ ¬ 0 ≤ x := by omega
    simp only [gl_spec_l7Up_1, e1, e2]
    by_cases h1 : 0 ≤ x <;> by_cases h2 : x < (k : Int) <;> simp [h1, h2]
theorem s_RepoOk {r : Repo} (h : wRepo r ≤ 1048576) : gf_spec_RepoOk r = some (mRepo r) := by
  unfold wRepo at h
  have hc : wL wCommit r.commits ≤ 1048576 := by omega
  have hh : wL wHead r.heads ≤ 1048576 := by omega
  have hcl : r.commits.length ≤ 1048576 := by unfold wL at hc; omega
  have hhl : r.heads.length ≤ 1048576 := by unfold wL at hh; omega
  have c1 : ((r.commits.length : Int) < 1) ↔ ¬ 1 ≤ r.commits.length := by omega
  have c2 : ((r.commits.length : Int) > 14) ↔ ¬ r.commits.length ≤ 14 := by omega
  have c3 : ((r.heads.length : Int) < 1) ↔ ¬ 1 ≤ r.heads.length := by omega
  have c4 : ((r.heads.length : Int) > 4) ↔ ¬ r.heads.length ≤ 4 := by omega
  have k1 : gl_spec_RepoOk_1 r r.commits 0 = some (if mCommits r.commits = true then .inr () else .inl false) := by
    refine loopB (gl := gl_spec_RepoOk_1 r) (p := fun c k => mUp c.up k && (mSheet c.sheet && (mWord c.note && decide (mFind r.commits c = (k : Int))))) (xs := r.commits) (fun _ => rfl) (fun x l k hd => ?_) r.commits 0 rfl
    have hx : x ∈ r.commits := List.mem_of_getElem? (drop_get hd)
    have hs := sum_mem (w := wCommit) hx
    have e0 : wCommit x = wL w0 x.up + (wL wFeat x.sheet + (x.note.size + 0)) := rfl
    have hs' : wCommit x ≤ 1048576 := by unfold wL at hc; omega
    have hu : x.up.length ≤ 1048576 := by have : wL w0 x.up = x.up.length + sumW w0 x.up := rfl; omega
    simp only [gl_spec_RepoOk_1, s_l7Up hu, s_SheetOk (fs := x.sheet) (by omega), s_WordOk (s := x.note) (by omega), s_l7Find hc, Option.bind_some]
    by_cases e : mFind r.commits x = (k : Int) <;> cases mUp x.up k <;> cases mSheet x.sheet <;> cases mWord x.note <;> simp [e]
  have k2 : gl_spec_RepoOk_2 r r.heads 0 = some (if mHeads r.commits.length r.heads = true then .inr () else .inl false) := by
    refine loopB (gl := gl_spec_RepoOk_2 r) (p := fun h k => mWord h.name && (decide (mHead r.heads h.name = (k : Int)) && (decide (0 ≤ h.at_) && decide (h.at_ < (r.commits.length : Int))))) (xs := r.heads) (fun _ => rfl) (fun x l k hd => ?_) r.heads 0 rfl
    have hx : x ∈ r.heads := List.mem_of_getElem? (drop_get hd)
    have hs := sum_mem (w := wHead) hx
    have e0 : wHead x = x.name.size + 0 := rfl
    have hs' : x.name.size ≤ 1048576 := by unfold wL at hh; omega
    have d1 : (x.at_ < 0) ↔ ¬ 0 ≤ x.at_ := by omega
    have d2 : (x.at_ ≥ (r.commits.length : Int)) ↔ ¬ x.at_ < (r.commits.length : Int) := by omega
    simp only [gl_spec_RepoOk_2, s_WordOk hs', s_l7Head hhl, Option.bind_some, d1, d2]
    by_cases e : mHead r.heads x.name = (k : Int) <;> by_cases e1 : 0 ≤ x.at_ <;> by_cases e2 : x.at_ < (r.commits.length : Int) <;> cases mWord x.name <;> simp [e, e1, e2]
  unfold gf_spec_RepoOk mRepo
  rw [k1, k2, if_pos (fits_small hcl), if_pos (fits_small hhl)]
  simp only [c1, c2, c3, c4]
  by_cases h1 : 1 ≤ r.commits.length <;> by_cases h2 : r.commits.length ≤ 14 <;> by_cases h3 : 1 ≤ r.heads.length <;> by_cases h4 : r.heads.length ≤ 4 <;> cases mCommits r.commits <;> cases mHeads r.commits.length r.heads <;> simp [h1, h2, h3, h4]
theorem i_version {r : Repo} {k : Int} (h : r.commits.length ≤ 1048576) : gf_impl_Repo_version r k = some (decide (0 ≤ k) && decide (k < (r.commits.length : Int))) := by
  unfold gf_impl_Repo_version
  rw [wrap_id (by omega) (by omega), i_within]
  have e : (k ≤ (r.commits.length : Int) - 1) ↔ k < (r.commits.length : Int) := by omega
  simp [e]
theorem i_Contains0 (x : Int) : gf_slices_Contains_int_int [] x = some false := rfl
theorem i_Contains1 (a x : Int) : gf_slices_Contains_int_int [a] x = some (decide (x = a)) := by
  have hf : fits 1 = true := fits_small (by omega)
  by_cases e : x = a
  · subst e
    simp [gf_slices_Contains_int_int, gf_slices_Index_int_int, hf, gl_slices_Index_int_int_1]
  · simp [gf_slices_Contains_int_int, gf_slices_Index_int_int, hf, gl_slices_Index_int_int_1, e]
theorem i_up5 {c : Commit} {k : Nat} (hk : k ≤ 1048576) (h : c.up.length ≤ 2) : gl_impl_RepoOk_5 k c c.up 0 = some (if (allFrom (fun (x : Int) _ => decide (0 ≤ x) && decide (x < (k : Int))) c.up 0 && decide (c.up[0]? = none ∨ c.up[0]? ≠ c.up[1]?)) = true then .inr () else .inl false) := by
  have hw : IntKind.i64.wrap ((k : Int) - 1) = (k : Int) - 1 := wrap_id (by omega) (by omega)
  have hi : ∀ x : Int, (x ≤ (k : Int) - 1) ↔ x < (k : Int) := fun x => by omega
  obtain ⟨up, sh, nt⟩ := c
  match up, h with
  | [], _ => rfl
  | [a], _ =>
    have s0 : slc [a] 0 ((0 : Nat) : Int) = some [] := by simp [slc]
    simp only [gl_impl_RepoOk_5, i_within, hw, hi, Option.bind_some, s0, i_Contains0, allFrom]
    by_cases h1 : 0 ≤ a <;> by_cases h2 : a < (k : Int) <;> simp [h1, h2]
  | [a, b], _ =>
    have s0 : slc [a, b] 0 ((0 : Nat) : Int) = some [] := by simp [slc]
    have s1 : slc [a, b] 0 ((0 + 1 : Nat) : Int) = some [a] := by simp [slc]
    simp only [gl_impl_RepoOk_5, i_within, hw, hi, Option.bind_some, s0, s1, i_Contains0, i_Contains1, allFrom]
    by_cases e : b = a
    · subst e
      by_cases h1 : 0 ≤ b <;> by_cases h2 : b < (k : Int) <;> simp [h1, h2]
    · have e' : ¬ a = b := fun h => e h.symm
      by_cases h1 : 0 ≤ a <;> by_cases h2 : a < (k : Int) <;> by_cases h3 : 0 ≤ b <;> by_cases h4 : b < (k : Int) <;> simp [h1, h2, h3, h4, e, e']
  | _ :: _ :: _ :: _, h => simp at h
theorem i_RepoOk {r : Repo} (h : wRepo r ≤ 1048576) : gf_impl_RepoOk r = some (mRepo r) := by
  unfold wRepo at h
  have hc : wL wCommit r.commits ≤ 1048576 := by omega
  have hh : wL wHead r.heads ≤ 1048576 := by omega
  have hcl : r.commits.length ≤ 1048576 := by unfold wL at hc; omega
  have hhl : r.heads.length ≤ 1048576 := by unfold wL at hh; omega
  have c1 : ((1 : Int) ≤ r.commits.length) ↔ 1 ≤ r.commits.length := by omega
  have c2 : ((r.commits.length : Int) ≤ 14) ↔ r.commits.length ≤ 14 := by omega
  have c3 : ((1 : Int) ≤ r.heads.length) ↔ 1 ≤ r.heads.length := by omega
  have c4 : ((r.heads.length : Int) ≤ 4) ↔ r.heads.length ≤ 4 := by omega
  have k1 : gl_impl_RepoOk_4 r r.commits 0 = some (if mCommits r.commits = true then .inr () else .inl false) := by
    refine loopB (gl := gl_impl_RepoOk_4 r) (p := fun c k => mUp c.up k && (mSheet c.sheet && (mWord c.note && decide (mFind r.commits c = (k : Int))))) (xs := r.commits) (fun _ => rfl) (fun x l k hd => ?_) r.commits 0 rfl
    have hx : x ∈ r.commits := List.mem_of_getElem? (drop_get hd)
    have hkl := drop_len hd
    have hs := sum_mem (w := wCommit) hx
    have e0 : wCommit x = wL w0 x.up + (wL wFeat x.sheet + (x.note.size + 0)) := rfl
    have hs' : wCommit x ≤ 1048576 := by unfold wL at hc; omega
    have hu : x.up.length ≤ 1048576 := by have : wL w0 x.up = x.up.length + sumW w0 x.up := rfl; omega
    have d1 : (((k : Int) == 0) == ((x.up.length : Int) == 0)) = (decide (0 < x.up.length) == decide (0 < k)) := by
      rw [zI, zI, posD, posD]
      cases decide (k = 0) <;> cases decide (x.up.length = 0) <;> rfl
    have d2 : ((x.up.length : Int) > 2) ↔ ¬ x.up.length ≤ 2 := by omega
    obtain ⟨B, hB⟩ : ∃ B, (decide (0 < x.up.length) == decide (0 < k)) = B := ⟨_, rfl⟩
    rw [hB] at d1
    simp only [gl_impl_RepoOk_4, i_SheetOk (fs := x.sheet) (by omega), i_WordOk (s := x.note) (by omega), i_Repo_commit hc, Option.bind_some, d1, d2, mUp, hB]
    clear d1 hB
    by_cases b : x.up.length ≤ 2
    · rw [i_up5 (by omega) b, if_pos (fits_small hu)]
      obtain ⟨D, hD⟩ : ∃ D, (decide (x.up[0]? = none ∨ x.up[0]? ≠ x.up[1]?)) = D := ⟨_, rfl⟩
      rw [hD]
      clear hD
      by_cases e : mFind r.commits x = (k : Int) <;> cases B <;> cases mSheet x.sheet <;> cases mWord x.note <;> cases allFrom (fun (x : Int) _ => decide (0 ≤ x) && decide (x < (k : Int))) x.up 0 <;> cases D <;> simp [e, b]
    · by_cases e : mFind r.commits x = (k : Int) <;> cases B <;> cases mSheet x.sheet <;> cases mWord x.note <;> simp [e, b]
  have k2 : gl_impl_RepoOk_6 r r.heads 0 = some (if mHeads r.commits.length r.heads = true then .inr () else .inl false) := by
    refine loopB (gl := gl_impl_RepoOk_6 r) (p := fun h k => mWord h.name && (decide (mHead r.heads h.name = (k : Int)) && (decide (0 ≤ h.at_) && decide (h.at_ < (r.commits.length : Int))))) (xs := r.heads) (fun _ => rfl) (fun x l k hd => ?_) r.heads 0 rfl
    have hx : x ∈ r.heads := List.mem_of_getElem? (drop_get hd)
    have hs := sum_mem (w := wHead) hx
    have e0 : wHead x = x.name.size + 0 := rfl
    have hs' : x.name.size ≤ 1048576 := by unfold wL at hh; omega
    simp only [gl_impl_RepoOk_6, i_WordOk hs', i_Repo_head hhl, i_version hcl, Option.bind_some]
    by_cases e : mHead r.heads x.name = (k : Int) <;> by_cases e1 : 0 ≤ x.at_ <;> by_cases e2 : x.at_ < (r.commits.length : Int) <;> cases mWord x.name <;> simp [e, e1, e2]
  unfold gf_impl_RepoOk mRepo
  rw [k1, k2, if_pos (fits_small hcl), if_pos (fits_small hhl), i_within, i_within]
  simp only [c1, c2, c3, c4, Option.bind_some]
  by_cases h1 : 1 ≤ r.commits.length <;> by_cases h2 : r.commits.length ≤ 14 <;> by_cases h3 : 1 ≤ r.heads.length <;> by_cases h4 : r.heads.length ≤ 4 <;> cases mCommits r.commits <;> cases mHeads r.commits.length r.heads <;> simp [h1, h2, h3, h4]
def kM : Int := 4398046511104
theorem bstr1 (n : Int) : (bstr [n]).size = 1 := rfl
theorem cat_some {a b : Str} (h : a.size + b.size ≤ 1000) : ∃ t, cat a b = some t ∧ t.size = a.size + b.size := ⟨a ++ b, by unfold cat; rw [if_pos (by omega)], by simp⟩
theorem markText_loop : ∀ (m n w : Nat) (s : Str), w < 10 ^ m → m ≤ 18 → m < n → s.size + m ≤ 100 → ∃ t, gl_laws_markText_1 n (w : Int) s = some t ∧ t.size ≤ s.size + m
  | m, 0, w, s, _, _, h, _ => by omega
  | 0, n + 1, w, s, h1, _, _, _ => by
    have : w = 0 := by simpa using h1
    subst this
    exact ⟨s, rfl, by omega⟩
  | m + 1, n + 1, w, s, h1, h2, h3, h4 => by
    simp only [gl_laws_markText_1]
    by_cases hv : 0 < w
    · rw [if_pos (by simpa using hv)]
      have hd : Int.tdiv (w : Int) 10 = ((w / 10 : Nat) : Int) := by
        rw [Int.tdiv_eq_ediv_of_nonneg (by omega)]
        rfl
      have hlt : w / 10 < 10 ^ m := by
        rw [Nat.pow_succ] at h1
        exact Nat.div_lt_of_lt_mul (by rw [Nat.mul_comm]; exact h1)
      have h5 : (10 : Nat) ^ m ≤ 10 ^ 18 := Nat.pow_le_pow_right (by decide) (by omega)
      have h6 : (10 : Nat) ^ 18 = 1000000000000000000 := by decide
      obtain ⟨t, ht, hs⟩ := cat_some (a := bstr [(IntKind.u8.wrap (IntKind.i64.wrap (48 + (Int.tmod (w : Int) 10))))]) (b := s) (by rw [bstr1]; omega)
      rw [bstr1] at hs
      rw [ht, hd, wrap_id (by omega) (by omega)]
      simp only [Option.bind_some]
      obtain ⟨t2, h7, h8⟩ := markText_loop m n (w / 10) t hlt (by omega) (by omega) (by omega)
      exact ⟨t2, h7, by omega⟩
    · rw [if_neg (by simpa using hv)]
      exact ⟨s, rfl, by omega⟩
theorem markText_ok {k : Int} (h : k ≤ kM) : ∃ t, gf_laws_markText k = some t := by
  unfold gf_laws_markText
  by_cases h0 : k ≤ 0
  · exact ⟨_, by rw [if_pos (by simpa using h0)]⟩
  · rw [if_neg (by simpa using h0)]
    have e : k = ((k.toNat : Nat) : Int) := by omega
    have hz : (⟨#[]⟩ : Str).size = 0 := rfl
    have hm : (⟨#[109]⟩ : Str).size = 1 := rfl
    have hr : rounds = 4194303 + 1 := rfl
    obtain ⟨t, h1, h2⟩ := markText_loop 18 rounds k.toNat (⟨#[]⟩ : Str) (by
      have : (10 : Nat) ^ 18 = 1000000000000000000 := by decide
      unfold kM at h
      omega) (by omega) (by rw [hr]; omega) (by rw [hz]; omega)
    rw [← e] at h1
    obtain ⟨t2, h3, _⟩ := cat_some (a := (⟨#[109]⟩ : Str)) (b := t) (by rw [hm]; omega)
    exact ⟨t2, by rw [h1]; simp only [Option.bind_some, h3]⟩
theorem mk_loop {α : Type} {gl : Nat → Int → Int → List α → Option (Int × List α)} {hl : List α → Nat → Int → Int → Prop} {c w : α → Nat} (h0 : ∀ n k xs, gl (n + 1) k (xs.length : Int) xs = some (k, xs)) (hE : ∀ x k, w x ≤ 3145728 → 0 < k → k + c x ≤ kM → ∃ y, (∀ n (i : Nat) xs, xs[i]? = some x → i < 3145728 → gl (n + 1) k (i : Int) xs = gl n (k + c x) ((i + 1 : Nat) : Int) (xs.set i y)) ∧ ∀ l j K, hl l (j + 1) (k + c x) K → hl (y :: l) j k K) (hn : ∀ j k, hl [] j k k) :
    ∀ (rest pre : List α) (n : Nat) (k : Int), (∀ x ∈ rest, w x ≤ 3145728) → rest.length < n → pre.length + rest.length ≤ 3145728 → 0 < k → k + sumW c rest ≤ kM → ∃ rest', rest'.length = rest.length ∧ gl n k (pre.length : Int) (pre ++ rest) = some (k + sumW c rest, pre ++ rest') ∧ ∀ j, hl rest' j k (k + sumW c rest)
  | _, _, 0, _, _, h, _, _, _ => by omega
  | [], pre, n + 1, k, _, _, _, _, _ => ⟨[], rfl, by simpa [sumW] using h0 n k pre, fun j => by simpa [sumW] using hn j k⟩
  | x :: rest, pre, n + 1, k, hw, hl1, hlen, hk, hb => by
    have hs : sumW c (x :: rest) = c x + sumW c rest := rfl
    rw [hs] at hb ⊢
    obtain ⟨y, h1, h2⟩ := hE x k (hw x (by simp)) hk (by omega)
    simp only [List.length_cons] at hl1 hlen
    obtain ⟨r, h3, h4, h5⟩ := mk_loop h0 hE hn rest (pre ++ [y]) n (k + c x) (fun z hz => hw z (by simp [hz])) (by omega) (by simp; omega) (by omega) (by omega)
    have e0 : k + (((c x + sumW c rest : Nat)) : Int) = k + c x + sumW c rest := by omega
    refine ⟨y :: r, by simp [h3], ?_, fun j => by rw [e0]; exact h2 r j _ (h5 (j + 1))⟩
    rw [h1 n pre.length (pre ++ x :: rest) (by simp) (by omega)]
    have e1 : (pre ++ x :: rest).set pre.length y = pre ++ [y] ++ rest := by simp
    have e2 : ((pre.length + 1 : Nat) : Int) = ((pre ++ [y]).length : Int) := by simp
    rw [e1, e2, h4]
    simp only [List.append_assoc, List.singleton_append, Option.some.injEq, Prod.mk.injEq, and_true]
    omega
def c1 {α : Type} (_ : α) : Nat := 1
def c2 {α : Type} (_ : α) : Nat := 2
def noh {α : Type} (_ : List α) (_ : Nat) (_ _ : Int) : Prop := True
theorem mk_list {α : Type} {gf : List α → Int → Option (Int × List α)} {gl : Nat → Int → Int → List α → Option (Int × List α)} {hl : List α → Nat → Int → Int → Prop} {c w : α → Nat} (hg : ∀ a k, gf a k = (gl rounds k 0 a).bind fun q => some (q.1, q.2)) (h0 : ∀ n k xs, gl (n + 1) k (xs.length : Int) xs = some (k, xs)) (hE : ∀ x k, w x ≤ 3145728 → 0 < k → k + c x ≤ kM → ∃ y, (∀ n (i : Nat) xs, xs[i]? = some x → i < 3145728 → gl (n + 1) k (i : Int) xs = gl n (k + c x) ((i + 1 : Nat) : Int) (xs.set i y)) ∧ ∀ l j K, hl l (j + 1) (k + c x) K → hl (y :: l) j k K) (hn : ∀ j k, hl [] j k k) : ∀ x k, wL w x ≤ 3145728 → 0 < k → k + sumW c x ≤ kM → ∃ y, gf x k = some (k + sumW c x, y) ∧ y.length = x.length ∧ hl y 0 k (k + sumW c x) := fun x k hw hk hb => by
  have hr : rounds = 4194303 + 1 := rfl
  have hlen : x.length ≤ 3145728 := by unfold wL at hw; omega
  obtain ⟨r, h1, h2, h3⟩ := mk_loop h0 hE hn x [] rounds k (fun y hy => by have := sum_mem (w := w) hy; unfold wL at hw; omega) (by rw [hr]; omega) (by simpa using hlen) hk hb
  refine ⟨r, ?_, h1, h3 0⟩
  rw [hg]
  simp only [List.nil_append, List.length_nil] at h2
  have h2' : gl rounds k 0 x = some (k + sumW c x, r) := h2
  rw [h2']
  rfl
theorem mw {k : Int} (h : 0 < k) (h2 : k ≤ kM) : IntKind.i64.wrap (k + 1) = k + 1 := by unfold kM at h2; exact wrap_id (by omega) (by omega)
theorem miw {i : Nat} (h : i < 3145728) : IntKind.i64.wrap ((i : Int) + 1) = ((i + 1 : Nat) : Int) := by rw [wrap_id (by omega) (by omega)]; omega
theorem lt_dec {α : Type} {xs : List α} {i : Nat} {x : α} (h : xs[i]? = some x) : decide ((i : Int) < (xs.length : Int)) = true := decide_eq_true (by have := get_lt h; omega)
theorem set_get {α : Type} {xs : List α} {i : Nat} {x y : α} (h : xs[i]? = some x) : (xs.set i y)[i]? = some y := List.getElem?_set_self (get_lt h)
theorem ge_dec {n : Nat} : decide ((n : Int) < (n : Int)) = false := decide_eq_false (by omega)
def hlInt (l : List Int) (j : Nat) (k K : Int) : Prop := gl_laws_heldIntS_1 l j k = some (.inr K)
theorem sum_c1 {α : Type} : ∀ l : List α, sumW (c1 (α := α)) l = l.length := fun l => by
  induction l with
  | nil => rfl
  | cons x l ih => simp only [sumW, ih, c1, List.length_cons]; omega
theorem mk_IntS {x : List Int} {k : Int} (hw : x.length ≤ 3145728) (hk : 0 < k) (hb : k + x.length ≤ kM) : ∃ y, gf_laws_markIntS x k = some (k + x.length, y) ∧ y.length = x.length ∧ gf_laws_heldIntS y k = some (k + x.length) := by
  obtain ⟨y, h1, h2, h3⟩ := mk_list (gf := gf_laws_markIntS) (hl := hlInt) (c := c1) (w := w0) (fun _ _ => rfl) (fun n k xs => by simp only [gl_laws_markIntS_1, ge_dec]; rfl) (fun x k _ hk hb => ⟨k, fun n i xs hx hi => by
    unfold c1 at hb ⊢
    simp only [gl_laws_markIntS_1, lt_dec hx, if_true, idx_nat, hx, Option.bind_some, mw hk (by omega), miw hi, Int.toNat_natCast, Int.natCast_one], fun l j K h => by
    unfold c1 at h hb
    unfold hlInt at h ⊢
    simp only [gl_laws_heldIntS_1, bne_self_eq_false, mw hk (by omega)]
    rw [if_neg (by decide)]
    simpa only [Int.natCast_one] using h⟩) (fun j k => rfl) x k (by unfold wL; rw [sum_w0]; exact hw) hk (by rw [sum_c1]; exact hb)
  rw [sum_c1] at h1 h3
  refine ⟨y, h1, h2, ?_⟩
  unfold hlInt at h3
  unfold gf_laws_heldIntS
  rw [if_pos (fits_mid (by omega)), h3]
  rfl
def cFeat (f : Feat) : Nat := 2 + (sumW c2 f.shape.pts + sumW c2 f.tags)
def cCommit (c : Commit) : Nat := sumW c1 c.up + (sumW cFeat c.sheet + 1)
def cRepo (r : Repo) : Nat := sumW cCommit r.commits + sumW c2 r.heads
theorem mkn_IntS {x : List Int} {k : Int} (hw : wL w0 x ≤ 3145728) (hk : 0 < k) (hb : k + sumW c1 x ≤ kM) : ∃ y, gf_laws_markIntS x k = some (k + sumW c1 x, y) := by
  obtain ⟨y, h, _⟩ := mk_list (gf := gf_laws_markIntS) (hl := noh) (c := c1) (w := w0) (fun _ _ => rfl) (fun n k xs => by simp only [gl_laws_markIntS_1, ge_dec]; rfl) (fun x k _ hk hb => ⟨k, fun n i xs hx hi => by
    unfold c1 at hb ⊢
    simp only [gl_laws_markIntS_1, lt_dec hx, if_true, idx_nat, hx, Option.bind_some, mw hk (by omega), miw hi, Int.toNat_natCast, Int.natCast_one], fun _ _ _ _ => trivial⟩) (fun _ _ => trivial) x k hw hk hb
  exact ⟨y, h⟩
theorem two_k {k : Int} : k + ((2 : Nat) : Int) = k + 1 + 1 := by omega
theorem mkn_PtS {x : List Pt} {k : Int} (hw : wL w0 x ≤ 3145728) (hk : 0 < k) (hb : k + sumW c2 x ≤ kM) : ∃ y, gf_laws_markPtS x k = some (k + sumW c2 x, y) := by
  obtain ⟨y, h, _⟩ := mk_list (gf := gf_laws_markPtS) (hl := noh) (c := c2) (w := w0) (fun _ _ => rfl) (fun n k xs => by simp only [gl_laws_markPtS_1, ge_dec]; rfl) (fun x k _ hk hb => by
    unfold c2 at hb ⊢
    refine ⟨⟨k, k + 1⟩, fun n i xs hx hi => ?_, fun _ _ _ _ => trivial⟩
    simp only [gl_laws_markPtS_1, lt_dec hx, if_true, idx_nat, hx, Option.bind_some, mw hk (by omega), mw (show 0 < k + 1 by omega) (by omega), miw hi, Int.toNat_natCast, set_get hx, List.set_set, two_k]) (fun _ _ => trivial) x k hw hk hb
  exact ⟨y, h⟩
theorem mkn_TagS {x : List Tag} {k : Int} (hw : wL wTag x ≤ 3145728) (hk : 0 < k) (hb : k + sumW c2 x ≤ kM) : ∃ y, gf_laws_markTagS x k = some (k + sumW c2 x, y) := by
  obtain ⟨y, h, _⟩ := mk_list (gf := gf_laws_markTagS) (hl := noh) (c := c2) (w := wTag) (fun _ _ => rfl) (fun n k xs => by simp only [gl_laws_markTagS_1, ge_dec]; rfl) (fun x k _ hk hb => by
    unfold c2 at hb ⊢
    obtain ⟨t1, h1⟩ := markText_ok (k := k) (by omega)
    obtain ⟨t2, h2⟩ := markText_ok (k := k + 1) (by omega)
    refine ⟨⟨t1, t2⟩, fun n i xs hx hi => ?_, fun _ _ _ _ => trivial⟩
    simp only [gl_laws_markTagS_1, lt_dec hx, if_true, idx_nat, hx, h1, h2, Option.bind_some, mw hk (by omega), mw (show 0 < k + 1 by omega) (by omega), miw hi, Int.toNat_natCast, set_get hx, List.set_set, two_k]) (fun _ _ => trivial) x k hw hk hb
  exact ⟨y, h⟩
theorem mkn_HeadS {x : List Head} {k : Int} (hw : wL wHead x ≤ 3145728) (hk : 0 < k) (hb : k + sumW c2 x ≤ kM) : ∃ y, gf_laws_markHeadS x k = some (k + sumW c2 x, y) := by
  obtain ⟨y, h, _⟩ := mk_list (gf := gf_laws_markHeadS) (hl := noh) (c := c2) (w := wHead) (fun _ _ => rfl) (fun n k xs => by simp only [gl_laws_markHeadS_1, ge_dec]; rfl) (fun x k _ hk hb => by
    unfold c2 at hb ⊢
    obtain ⟨t1, h1⟩ := markText_ok (k := k) (by omega)
    refine ⟨⟨t1, k + 1⟩, fun n i xs hx hi => ?_, fun _ _ _ _ => trivial⟩
    simp only [gl_laws_markHeadS_1, lt_dec hx, if_true, idx_nat, hx, h1, Option.bind_some, mw hk (by omega), mw (show 0 < k + 1 by omega) (by omega), miw hi, Int.toNat_natCast, set_get hx, List.set_set, two_k]) (fun _ _ => trivial) x k hw hk hb
  exact ⟨y, h⟩
theorem mkn_FeatS {x : List Feat} {k : Int} (hw : wL wFeat x ≤ 3145728) (hk : 0 < k) (hb : k + sumW cFeat x ≤ kM) : ∃ y, gf_laws_markFeatS x k = some (k + sumW cFeat x, y) := by
  obtain ⟨y, h, _⟩ := mk_list (gf := gf_laws_markFeatS) (hl := noh) (c := cFeat) (w := wFeat) (fun _ _ => rfl) (fun n k xs => by simp only [gl_laws_markFeatS_1, ge_dec]; rfl) (fun x k hwx hk hb => by
    unfold cFeat at hb ⊢
    unfold wFeat wShape at hwx
    obtain ⟨t1, h1⟩ := markText_ok (k := k) (by omega)
    obtain ⟨p, h2⟩ := mkn_PtS (x := x.shape.pts) (k := k + 1 + 1) (by omega) (by omega) (by omega)
    obtain ⟨q, h3⟩ := mkn_TagS (x := x.tags) (k := k + 1 + 1 + sumW c2 x.shape.pts) (by omega) (by omega) (by omega)
    refine ⟨⟨t1, ⟨k + 1, p⟩, q⟩, fun n i xs hx hi => ?_, fun _ _ _ _ => trivial⟩
    simp only [gl_laws_markFeatS_1, lt_dec hx, if_true, idx_nat, hx, h1, h2, h3, Option.bind_some, mw hk (by omega), mw (show 0 < k + 1 by omega) (by omega), miw hi, Int.toNat_natCast, set_get hx, List.set_set]
    congr 1
    omega) (fun _ _ => trivial) x k hw hk hb
  exact ⟨y, h⟩
theorem mkn_CommitS {x : List Commit} {k : Int} (hw : wL wCommit x ≤ 3145728) (hk : 0 < k) (hb : k + sumW cCommit x ≤ kM) : ∃ y, gf_laws_markCommitS x k = some (k + sumW cCommit x, y) := by
  obtain ⟨y, h, _⟩ := mk_list (gf := gf_laws_markCommitS) (hl := noh) (c := cCommit) (w := wCommit) (fun _ _ => rfl) (fun n k xs => by simp only [gl_laws_markCommitS_1, ge_dec]; rfl) (fun x k hwx hk hb => by
    unfold cCommit at hb ⊢
    unfold wCommit at hwx
    obtain ⟨p, h2⟩ := mkn_IntS (x := x.up) (k := k) (by omega) (by omega) (by omega)
    obtain ⟨q, h3⟩ := mkn_FeatS (x := x.sheet) (k := k + sumW c1 x.up) (by omega) (by omega) (by omega)
    obtain ⟨t1, h1⟩ := markText_ok (k := k + sumW c1 x.up + sumW cFeat x.sheet) (by omega)
    refine ⟨⟨p, q, t1⟩, fun n i xs hx hi => ?_, fun _ _ _ _ => trivial⟩
    simp only [gl_laws_markCommitS_1, lt_dec hx, if_true, idx_nat, hx, h1, h2, h3, Option.bind_some, mw (show 0 < k + sumW c1 x.up + sumW cFeat x.sheet by omega) (by omega), miw hi, Int.toNat_natCast, set_get hx, List.set_set]
    congr 1
    omega) (fun _ _ => trivial) x k hw hk hb
  exact ⟨y, h⟩
theorem mkn_Repo {x : Repo} {k : Int} (hw : wRepo x ≤ 3145728) (hk : 0 < k) (hb : k + cRepo x ≤ kM) : ∃ y, gf_laws_markRepo x k = some (k + cRepo x, y) := by
  unfold cRepo at hb ⊢
  unfold wRepo at hw
  obtain ⟨p, h2⟩ := mkn_CommitS (x := x.commits) (k := k) (by omega) (by omega) (by omega)
  obtain ⟨q, h3⟩ := mkn_HeadS (x := x.heads) (k := k + sumW cCommit x.commits) (by omega) (by omega) (by omega)
  refine ⟨⟨p, q⟩, ?_⟩
  unfold gf_laws_markRepo
  simp only [h2, h3, Option.bind_some, Option.some.injEq, Prod.mk.injEq, and_true]
  omega
theorem sum_le {α : Type} {c w : α → Nat} {a : Nat} (h : ∀ x, c x ≤ a + a * w x) : ∀ xs : List α, sumW c xs ≤ a * wL w xs
  | [] => by simp [sumW]
  | x :: xs => by
    have ih := sum_le h xs
    have := h x
    unfold wL at ih ⊢
    simp only [sumW, List.length_cons]
    have e : a * (xs.length + 1 + (w x + sumW w xs)) = a + a * w x + a * (xs.length + sumW w xs) := by
      rw [show xs.length + 1 + (w x + sumW w xs) = 1 + w x + (xs.length + sumW w xs) by omega, Nat.mul_add, Nat.mul_add, Nat.mul_one]
    omega
theorem cFeat_le (f : Feat) : cFeat f ≤ 2 + 2 * wFeat f := by
  have h1 := sum_le (c := c2) (w := w0) (a := 2) (fun x => by unfold c2; omega) f.shape.pts
  have h2 := sum_le (c := c2) (w := wTag) (a := 2) (fun x => by unfold c2; omega) f.tags
  unfold cFeat wFeat wShape
  omega
theorem cCommit_le (c : Commit) : cCommit c ≤ 2 + 2 * wCommit c := by
  have h1 := sum_le (c := c1) (w := w0) (a := 2) (fun x => by unfold c1; omega) c.up
  have h2 := sum_le (c := cFeat) (w := wFeat) (a := 2) (fun x => by have := cFeat_le x; omega) c.sheet
  unfold cCommit wCommit
  omega
theorem cRepo_le (r : Repo) : cRepo r ≤ 2 * wRepo r := by
  have h1 := sum_le (c := cCommit) (w := wCommit) (a := 2) (fun x => by have := cCommit_le x; omega) r.commits
  have h2 := sum_le (c := c2) (w := wHead) (a := 2) (fun x => by unfold c2; omega) r.heads
  unfold cRepo wRepo
  omega
theorem ne_dec {n : Int} (h : 0 < n) : decide (n < 0) = false := decide_eq_false (by omega)
theorem mkh_IntS {x : List Int} {k : Int} (hw : wL w0 x ≤ 3145728) (hk : 0 < k) (hb : k + sumW c1 x ≤ kM) : ∃ y, gf_laws_markIntS x k = some (k + sumW c1 x, y) ∧ gf_laws_heldIntS y k = some (k + sumW c1 x) := by
  rw [sum_c1] at hb ⊢
  obtain ⟨y, h1, h2, h3⟩ := mk_IntS (x := x) (k := k) (by unfold wL at hw; omega) hk hb
  exact ⟨y, h1, h3⟩
theorem mkh_PtS {x : List Pt} {k : Int} (hw : wL w0 x ≤ 3145728) (hk : 0 < k) (hb : k + sumW c2 x ≤ kM) : ∃ y, gf_laws_markPtS x k = some (k + sumW c2 x, y) ∧ gf_laws_heldPtS y k = some (k + sumW c2 x) := by
  obtain ⟨y, h, h2, h3⟩ := mk_list (gf := gf_laws_markPtS) (hl := fun l j k K => gl_laws_heldPtS_1 l j k = some (.inr K)) (c := c2) (w := w0) (fun _ _ => rfl) (fun n k xs => by simp only [gl_laws_markPtS_1, ge_dec]; rfl) (fun x k _ hk hb => by
    unfold c2 at hb ⊢
    refine ⟨⟨k, k + 1⟩, fun n i xs hx hi => ?_, fun l j K hl => ?_⟩
    · simp only [gl_laws_markPtS_1, lt_dec hx, if_true, idx_nat, hx, Option.bind_some, mw hk (by omega), mw (show 0 < k + 1 by omega) (by omega), miw hi, Int.toNat_natCast, set_get hx, List.set_set, two_k]
    · rw [two_k] at hl
      simp only [gl_laws_heldPtS_1, bne_self_eq_false, mw hk (by omega), mw (show 0 < k + 1 by omega) (by omega)]
      exact hl) (fun _ _ => rfl) x k hw hk hb
  refine ⟨y, h, ?_⟩
  unfold gf_laws_heldPtS
  rw [if_pos (fits_mid (by unfold wL at hw; omega)), h3]
  rfl
theorem mkh_TagS {x : List Tag} {k : Int} (hw : wL wTag x ≤ 3145728) (hk : 0 < k) (hb : k + sumW c2 x ≤ kM) : ∃ y, gf_laws_markTagS x k = some (k + sumW c2 x, y) ∧ gf_laws_heldTagS y k = some (k + sumW c2 x) := by
  obtain ⟨y, h, h2, h3⟩ := mk_list (gf := gf_laws_markTagS) (hl := fun l j k K => gl_laws_heldTagS_1 l j k = some (.inr K)) (c := c2) (w := wTag) (fun _ _ => rfl) (fun n k xs => by simp only [gl_laws_markTagS_1, ge_dec]; rfl) (fun x k _ hk hb => by
    unfold c2 at hb ⊢
    obtain ⟨t1, h1⟩ := markText_ok (k := k) (by omega)
    obtain ⟨t2, h2⟩ := markText_ok (k := k + 1) (by omega)
    refine ⟨⟨t1, t2⟩, fun n i xs hx hi => ?_, fun l j K hl => ?_⟩
    · simp only [gl_laws_markTagS_1, lt_dec hx, if_true, idx_nat, hx, h1, h2, Option.bind_some, mw hk (by omega), mw (show 0 < k + 1 by omega) (by omega), miw hi, Int.toNat_natCast, set_get hx, List.set_set, two_k]
    · rw [two_k] at hl
      simp only [gl_laws_heldTagS_1, seq_self, Bool.not_true, h1, h2, Option.bind_some, mw hk (by omega), mw (show 0 < k + 1 by omega) (by omega)]
      exact hl) (fun _ _ => rfl) x k hw hk hb
  refine ⟨y, h, ?_⟩
  unfold gf_laws_heldTagS
  rw [if_pos (fits_mid (by unfold wL at hw; omega)), h3]
  rfl
theorem mkh_HeadS {x : List Head} {k : Int} (hw : wL wHead x ≤ 3145728) (hk : 0 < k) (hb : k + sumW c2 x ≤ kM) : ∃ y, gf_laws_markHeadS x k = some (k + sumW c2 x, y) ∧ gf_laws_heldHeadS y k = some (k + sumW c2 x) := by
  obtain ⟨y, h, h2, h3⟩ := mk_list (gf := gf_laws_markHeadS) (hl := fun l j k K => gl_laws_heldHeadS_1 l j k = some (.inr K)) (c := c2) (w := wHead) (fun _ _ => rfl) (fun n k xs => by simp only [gl_laws_markHeadS_1, ge_dec]; rfl) (fun x k _ hk hb => by
    unfold c2 at hb ⊢
    obtain ⟨t1, h1⟩ := markText_ok (k := k) (by omega)
    refine ⟨⟨t1, k + 1⟩, fun n i xs hx hi => ?_, fun l j K hl => ?_⟩
    · simp only [gl_laws_markHeadS_1, lt_dec hx, if_true, idx_nat, hx, h1, Option.bind_some, mw hk (by omega), mw (show 0 < k + 1 by omega) (by omega), miw hi, Int.toNat_natCast, set_get hx, List.set_set, two_k]
    · rw [two_k] at hl
      simp only [gl_laws_heldHeadS_1, seq_self, bne_self_eq_false, Bool.not_true, h1, Option.bind_some, mw hk (by omega), mw (show 0 < k + 1 by omega) (by omega)]
      exact hl) (fun _ _ => rfl) x k hw hk hb
  refine ⟨y, h, ?_⟩
  unfold gf_laws_heldHeadS
  rw [if_pos (fits_mid (by unfold wL at hw; omega)), h3]
  rfl
theorem mkh_FeatS {x : List Feat} {k : Int} (hw : wL wFeat x ≤ 3145728) (hk : 0 < k) (hb : k + sumW cFeat x ≤ kM) : ∃ y, gf_laws_markFeatS x k = some (k + sumW cFeat x, y) ∧ gf_laws_heldFeatS y k = some (k + sumW cFeat x) := by
  obtain ⟨y, h, h2, h3⟩ := mk_list (gf := gf_laws_markFeatS) (hl := fun l j k K => gl_laws_heldFeatS_1 l j k = some (.inr K)) (c := cFeat) (w := wFeat) (fun _ _ => rfl) (fun n k xs => by simp only [gl_laws_markFeatS_1, ge_dec]; rfl) (fun x k hwx hk hb => by
    unfold cFeat at hb ⊢
    unfold wFeat wShape at hwx
    obtain ⟨t1, h1⟩ := markText_ok (k := k) (by omega)
    obtain ⟨p, h2, h2'⟩ := mkh_PtS (x := x.shape.pts) (k := k + 1 + 1) (by omega) (by omega) (by omega)
    obtain ⟨q, h3, h3'⟩ := mkh_TagS (x := x.tags) (k := k + 1 + 1 + sumW c2 x.shape.pts) (by omega) (by omega) (by omega)
    have e : k + (((2 + (sumW c2 x.shape.pts + sumW c2 x.tags) : Nat)) : Int) = k + 1 + 1 + sumW c2 x.shape.pts + sumW c2 x.tags := by omega
    refine ⟨⟨t1, ⟨k + 1, p⟩, q⟩, fun n i xs hx hi => ?_, fun l j K hl => ?_⟩
    · simp only [gl_laws_markFeatS_1, lt_dec hx, if_true, idx_nat, hx, h1, h2, h3, Option.bind_some, mw hk (by omega), mw (show 0 < k + 1 by omega) (by omega), miw hi, Int.toNat_natCast, set_get hx, List.set_set]
      rw [e]
    · rw [e] at hl
      simp only [gl_laws_heldFeatS_1, seq_self, bne_self_eq_false, Bool.not_true, h1, h2', h3', Option.bind_some, mw hk (by omega), mw (show 0 < k + 1 by omega) (by omega), ne_dec (show 0 < k + 1 + 1 + (sumW c2 x.shape.pts : Int) by omega), ne_dec (show 0 < k + 1 + 1 + (sumW c2 x.shape.pts : Int) + sumW c2 x.tags by omega)]
      exact hl) (fun _ _ => rfl) x k hw hk hb
  refine ⟨y, h, ?_⟩
  unfold gf_laws_heldFeatS
  rw [if_pos (fits_mid (by unfold wL at hw; omega)), h3]
  rfl
theorem mkh_CommitS {x : List Commit} {k : Int} (hw : wL wCommit x ≤ 3145728) (hk : 0 < k) (hb : k + sumW cCommit x ≤ kM) : ∃ y, gf_laws_markCommitS x k = some (k + sumW cCommit x, y) ∧ gf_laws_heldCommitS y k = some (k + sumW cCommit x) := by
  obtain ⟨y, h, h2, h3⟩ := mk_list (gf := gf_laws_markCommitS) (hl := fun l j k K => gl_laws_heldCommitS_1 l j k = some (.inr K)) (c := cCommit) (w := wCommit) (fun _ _ => rfl) (fun n k xs => by simp only [gl_laws_markCommitS_1, ge_dec]; rfl) (fun x k hwx hk hb => by
    unfold cCommit at hb ⊢
    unfold wCommit at hwx
    obtain ⟨p, h2, h2'⟩ := mkh_IntS (x := x.up) (k := k) (by omega) (by omega) (by omega)
    obtain ⟨q, h3, h3'⟩ := mkh_FeatS (x := x.sheet) (k := k + sumW c1 x.up) (by omega) (by omega) (by omega)
    obtain ⟨t1, h1⟩ := markText_ok (k := k + sumW c1 x.up + sumW cFeat x.sheet) (by omega)
    have e : k + (((sumW c1 x.up + (sumW cFeat x.sheet + 1) : Nat)) : Int) = k + sumW c1 x.up + sumW cFeat x.sheet + 1 := by omega
    refine ⟨⟨p, q, t1⟩, fun n i xs hx hi => ?_, fun l j K hl => ?_⟩
    · simp only [gl_laws_markCommitS_1, lt_dec hx, if_true, idx_nat, hx, h1, h2, h3, Option.bind_some, mw (show 0 < k + sumW c1 x.up + sumW cFeat x.sheet by omega) (by omega), miw hi, Int.toNat_natCast, set_get hx, List.set_set]
      rw [e]
    · rw [e] at hl
      simp only [gl_laws_heldCommitS_1, seq_self, Bool.not_true, h1, h2', h3', Option.bind_some, mw (show 0 < k + sumW c1 x.up + sumW cFeat x.sheet by omega) (by omega), ne_dec (show 0 < k + (sumW c1 x.up : Int) by omega), ne_dec (show 0 < k + (sumW c1 x.up : Int) + sumW cFeat x.sheet by omega)]
      exact hl) (fun _ _ => rfl) x k hw hk hb
  refine ⟨y, h, ?_⟩
  unfold gf_laws_heldCommitS
  rw [if_pos (fits_mid (by unfold wL at hw; omega)), h3]
  rfl
theorem mkh_Repo {x : Repo} {k : Int} (hw : wRepo x ≤ 3145728) (hk : 0 < k) (hb : k + cRepo x ≤ kM) : ∃ y, gf_laws_markRepo x k = some (k + cRepo x, y) ∧ gf_laws_heldRepo y k = some (k + cRepo x) := by
  unfold cRepo at hb ⊢
  unfold wRepo at hw
  obtain ⟨p, h2, h2'⟩ := mkh_CommitS (x := x.commits) (k := k) (by omega) (by omega) (by omega)
  obtain ⟨q, h3, h3'⟩ := mkh_HeadS (x := x.heads) (k := k + sumW cCommit x.commits) (by omega) (by omega) (by omega)
  have e : k + (((sumW cCommit x.commits + sumW c2 x.heads : Nat)) : Int) = k + sumW cCommit x.commits + sumW c2 x.heads := by omega
  rw [e]
  refine ⟨⟨p, q⟩, ?_, ?_⟩
  · unfold gf_laws_markRepo
    simp only [h2, h3, Option.bind_some]
  · unfold gf_laws_heldRepo
    simp only [h2', h3', Option.bind_some, ne_dec (show 0 < k + (sumW cCommit x.commits : Int) by omega), ne_dec (show 0 < k + (sumW cCommit x.commits : Int) + sumW c2 x.heads by omega)]
    rfl
theorem cpa_loop {α : Type} {g : α → Option α} {gl : List α → Nat → List α → Option (List α)} (h0 : ∀ k v, gl [] k v = some v) (h1 : ∀ x l k v, gl (x :: l) k v = (g x).bind fun y => if fits (v ++ [y]).length = true then gl l (k + 1) (v ++ [y]) else none) : ∀ (l : List α) (k : Nat) (v : List α), (∀ x ∈ l, g x = some x) → v.length + l.length ≤ 1048576 → gl l k v = some (v ++ l)
  | [], k, v, _, _ => by rw [h0]; simp
  | x :: l, k, v, hx, hl => by
    simp only [List.length_cons] at hl
    rw [h1, hx x (by simp)]
    simp only [Option.bind_some]
    rw [if_pos (fits_small (by simp; omega)), cpa_loop h0 h1 l (k + 1) _ (fun y hy => hx y (by simp [hy])) (by simp; omega)]
    simp
theorem s_l2Copy {f : Feat} (h : wFeat f ≤ 1048576) : gf_spec_l2Copy f = some f := by
  unfold wFeat wShape wL at h
  unfold gf_spec_l2Copy gf_spec_l1Copy
  rw [if_pos (fits_small (by simp; omega))]
  simp only [Option.bind_some]
  rw [if_pos (fits_small (by simp; omega))]
  rfl
theorem s_l3Copy {fs : List Feat} (h : wL wFeat fs ≤ 1048576) : gf_spec_l3Copy fs = some fs := by
  have hl : fs.length ≤ 1048576 := by unfold wL at h; omega
  unfold gf_spec_l3Copy
  rw [if_pos (fits_small hl), cpa_loop (gl := gl_spec_l3Copy_1) (fun _ _ => rfl) (fun _ _ _ _ => rfl) fs 0 [] (fun x hx => s_l2Copy (by have := sum_mem (w := wFeat) hx; unfold wL at h; omega)) (by simpa using hl)]
  rfl
theorem s_l7One {c : Commit} (h : wCommit c ≤ 1048576) : gf_spec_l7One c = some c := by
  unfold wCommit at h
  unfold gf_spec_l7One
  rw [if_pos (fits_small (by unfold wL at h; simp; omega)), s_l3Copy (by omega)]
  rfl
theorem s_l7Copy {r : Repo} (h : wRepo r ≤ 1048576) : gf_spec_l7Copy r = some r := by
  unfold wRepo at h
  have hl : r.commits.length ≤ 1048576 := by unfold wL at h; omega
  unfold gf_spec_l7Copy
  rw [if_pos (fits_small (by unfold wL at h; simp; omega)), if_pos (fits_small hl), cpa_loop (gl := gl_spec_l7Copy_1) (fun _ _ => rfl) (fun _ _ _ _ => rfl) r.commits 0 [] (fun x hx => s_l7One (by have := sum_mem (w := wCommit) hx; unfold wL at h; omega)) (by simpa using hl)]
  rfl
theorem i_cloneFeat {f : Feat} (h : wFeat f ≤ 1048576) : gf_impl_cloneFeat f = some f := by
  unfold wFeat wShape wL at h
  unfold gf_impl_cloneFeat gf_impl_cloneShape
  rw [if_pos (fits_small (by simp; omega))]
  simp only [Option.bind_some]
  rw [if_pos (fits_small (by simp; omega))]
  rfl
theorem i_cloneSheet {fs : List Feat} (h : wL wFeat fs ≤ 1048576) : gf_impl_cloneSheet fs = some fs := by
  have hl : fs.length ≤ 1048576 := by unfold wL at h; omega
  unfold gf_impl_cloneSheet
  rw [if_pos (fits_small hl), cpa_loop (gl := gl_impl_cloneSheet_1) (fun _ _ => rfl) (fun _ _ _ _ => rfl) fs 0 [] (fun x hx => i_cloneFeat (by have := sum_mem (w := wFeat) hx; unfold wL at h; omega)) (by simpa using hl)]
  rfl
theorem i_cloneCommit {c : Commit} (h : wCommit c ≤ 1048576) : gf_impl_cloneCommit c = some c := by
  unfold wCommit at h
  unfold gf_impl_cloneCommit
  rw [if_pos (fits_small (by unfold wL at h; simp; omega)), i_cloneSheet (by omega)]
  rfl
theorem i_cloneRepo {r : Repo} (h : wRepo r ≤ 1048576) : gf_impl_cloneRepo r = some r := by
  unfold wRepo at h
  have hl : r.commits.length ≤ 1048576 := by unfold wL at h; omega
  unfold gf_impl_cloneRepo
  rw [if_pos (fits_small (by unfold wL at h; simp; omega)), if_pos (fits_small hl), cpa_loop (gl := gl_impl_cloneRepo_1) (fun _ _ => rfl) (fun _ _ _ _ => rfl) r.commits 0 [] (fun x hx => i_cloneCommit (by have := sum_mem (w := wCommit) hx; unfold wL at h; omega)) (by simpa using hl)]
  rfl
def cnt (m : List Bool) : Nat → Nat
  | 0 => 0
  | k + 1 => cnt m k + (if trueAt m k = true then 1 else 0)
def newUp (m : List Bool) (c : Commit) : Commit := ⟨c.up.map fun u => (cnt m u.toNat : Int), c.sheet, c.note⟩
def sweepC (m : List Bool) : List Commit → Nat → List Commit
  | [], _ => []
  | x :: l, k => if trueAt m k = true then newUp m x :: sweepC m l (k + 1) else sweepC m l (k + 1)
def setAtH (hs : List Head) (k : Nat) (h : Head) (v : Int) : List Head := hs.set k ⟨h.name, v⟩
def mAdd (r : Repo) (n : Str) (s : List Feat) (t : Str) : Repo × Int :=
  if (mRepo r && (mSheet s && mWord t)) = true then
    (match idx r.heads (mHead r.heads n) with
    | none => (r, 1)
    | some h => match idx r.commits h.at_ with
      | none => (r, 1)
      | some x => if x.sheet = s then (r, 3) else
        if mFind r.commits ⟨[h.at_], s, t⟩ < 0 then
          (if r.commits.length = 14 then (r, 2) else (⟨r.commits ++ [⟨[h.at_], s, t⟩], setAtH r.heads (mHead r.heads n).toNat h r.commits.length⟩, 0))
        else (⟨r.commits, setAtH r.heads (mHead r.heads n).toNat h (mFind r.commits ⟨[h.at_], s, t⟩)⟩, 0))
  else (⟨[], []⟩, 4)
theorem sumW_set {α : Type} {w : α → Nat} : ∀ (xs : List α) (k : Nat) (x y : α), xs[k]? = some x → w y ≤ w x → sumW w (xs.set k y) ≤ sumW w xs
  | [], k, x, y, h, _ => by simp at h
  | z :: xs, 0, x, y, h, hw => by
    simp only [List.getElem?_cons_zero, Option.some.injEq] at h
    subst h
    simp only [List.set_cons_zero, sumW]
    omega
  | z :: xs, k + 1, x, y, h, hw => by
    have := sumW_set xs k x y (by simpa using h) hw
    simp only [List.set_cons_succ, sumW]
    omega
theorem setAtH_w {hs : List Head} {n : Str} {h : Head} {v : Int} (hh : idx hs (mHead hs n) = some h) : wL wHead (setAtH hs (mHead hs n).toNat h v) ≤ wL wHead hs := by
  have h1 := (idx_get hh).2
  have := sumW_set (w := wHead) hs _ h ⟨h.name, v⟩ h1 (Nat.le_refl _)
  unfold wL setAtH
  simp only [List.length_set]
  omega
theorem sumW_app1 {α : Type} {w : α → Nat} : ∀ (a : List α) (x : α), sumW w (a ++ [x]) = sumW w a + w x
  | [], x => by simp [sumW]
  | y :: a, x => by simp only [List.cons_append, sumW, sumW_app1 a x]; omega
theorem mAdd_w {r : Repo} {n t : Str} {s : List Feat} : wRepo (mAdd r n s t).1 ≤ wRepo r + (2 + (wL wFeat s + t.size)) := by
  unfold mAdd
  split
  · split
    · simp only; omega
    · rename_i h hh
      split
      · simp only; omega
      · split
        · simp only; omega
        · split
          · split
            · simp only; omega
            · have := setAtH_w (v := (r.commits.length : Int)) hh
              simp only [wRepo]
              have e : wL wCommit (r.commits ++ [⟨[h.at_], s, t⟩]) = wL wCommit r.commits + (1 + wCommit ⟨[h.at_], s, t⟩) := by
                unfold wL
                rw [sumW_app1]
                simp
                omega
              have e2 : wCommit ⟨[h.at_], s, t⟩ = 1 + (wL wFeat s + (t.size + 0)) := by unfold wCommit; simp [wL, sumW, w0]
              omega
          · have := setAtH_w (v := mFind r.commits ⟨[h.at_], s, t⟩) hh
            simp only [wRepo]
            omega
  · have : wRepo ⟨[], []⟩ = 0 := rfl
    simp only [this]
    omega
theorem fst_range {α : Type} {p : α → Bool} : ∀ {l : List α} {k : Nat}, fstFrom p l k = -1 ∨ (k : Int) ≤ fstFrom p l k ∧ fstFrom p l k < (k + l.length : Nat)
  | [], k => .inl rfl
  | x :: l, k => by
    simp only [fstFrom]
    split
    · exact .inr ⟨by omega, by simp only [List.length_cons]; omega⟩
    · rcases fst_range (p := p) (l := l) (k := k + 1) with h | h
      · exact .inl h
      · exact .inr ⟨by omega, by simp only [List.length_cons]; omega⟩
theorem mHead_range {hs : List Head} {n : Str} : mHead hs n < 0 ∨ 0 ≤ mHead hs n ∧ mHead hs n < hs.length := by
  rcases fst_range (p := fun y : Head => decide (y.name = n)) (l := hs) (k := 0) with h | h
  · left
    have e : mHead hs n = -1 := h
    omega
  · right
    have e : mHead hs n = fstFrom (fun y : Head => decide (y.name = n)) hs 0 := rfl
    rw [← e] at h
    simpa using h
theorem trueAt_lt {m : List Bool} {k : Nat} (h : trueAt m k = true) : k < m.length := by
  unfold trueAt at h
  rcases Nat.lt_or_ge k m.length with h1 | h1
  · exact h1
  · rw [List.getElem?_eq_none h1] at h
    cases h
theorem cnt_mono {m : List Bool} {a : Nat} : ∀ {b : Nat}, a ≤ b → cnt m a ≤ cnt m b
  | 0, h => by have : a = 0 := by omega
               subst this; exact Nat.le_refl _
  | b + 1, h => by
    rcases Nat.eq_or_lt_of_le h with rfl | h
    · exact Nat.le_refl _
    · have := cnt_mono (m := m) (a := a) (b := b) (by omega)
      simp only [cnt]
      omega
theorem sweepC_len {m : List Bool} : ∀ {l : List Commit} {k : Nat}, (sweepC m l k).length + cnt m k = cnt m (k + l.length)
  | [], k => by simp [sweepC]
  | x :: l, k => by
    have ih := sweepC_len (m := m) (l := l) (k := k + 1)
    simp only [cnt] at ih
    rw [List.length_cons, show k + (l.length + 1) = k + 1 + l.length by omega]
    simp only [sweepC]
    split
    · rename_i h
      rw [if_pos h] at ih
      simp only [List.length_cons]
      omega
    · rename_i h
      rw [if_neg h] at ih
      omega
theorem sweepC_get {m : List Bool} : ∀ {l : List Commit} {k j : Nat} {x : Commit}, l[j]? = some x → trueAt m (k + j) = true → (sweepC m l k)[cnt m (k + j) - cnt m k]? = some (newUp m x)
  | [], k, j, x, h, _ => by simp at h
  | y :: l, k, 0, x, h, ht => by
    simp only [List.getElem?_cons_zero, Option.some.injEq] at h
    subst h
    simp only [Nat.add_zero] at ht
    simp [sweepC, ht]
  | y :: l, k, j + 1, x, h, ht => by
    rw [show k + (j + 1) = k + 1 + j by omega] at ht ⊢
    have ih := sweepC_get (m := m) (l := l) (k := k + 1) (j := j) (by simpa using h) ht
    have hm := cnt_mono (m := m) (a := k + 1) (b := k + 1 + j) (by omega)
    simp only [cnt] at ih hm
    simp only [sweepC]
    split
    · rename_i hk
      rw [if_pos hk] at ih hm
      rw [show cnt m (k + 1 + j) - cnt m k = cnt m (k + 1 + j) - (cnt m k + 1) + 1 by omega, List.getElem?_cons_succ]
      exact ih
    · rename_i hk
      rw [if_neg hk] at ih
      exact ih
theorem cnt_hit {m : List Bool} : ∀ {n j : Nat}, j < cnt m n → ∃ k, k < n ∧ trueAt m k = true ∧ cnt m k = j
  | 0, j, h => by simp [cnt] at h
  | n + 1, j, h => by
    by_cases hn : j < cnt m n
    · obtain ⟨k, h1, h2, h3⟩ := cnt_hit hn
      exact ⟨k, by omega, h2, h3⟩
    · simp only [cnt] at h
      split at h
      · rename_i ht
        exact ⟨n, by omega, ht, by omega⟩
      · omega
structure Kept (cs : List Commit) (m : List Bool) : Prop where
  hist : Hist cs
  len : m.length = cs.length
  up : ∀ k x u, cs[k]? = some x → trueAt m k = true → u ∈ x.up → trueAt m u.toNat = true
section
variable {cs : List Commit} {m : List Bool}
theorem Kept.get (h : Kept cs m) {k : Nat} (hk : trueAt m k = true) : ∃ x, cs[k]? = some x ∧ (sweepC m cs 0)[cnt m k]? = some (newUp m x) := by
  obtain ⟨x, hx⟩ := getI (xs := cs) (i := k) (by rw [← h.len]; exact trueAt_lt hk)
  have := sweepC_get (m := m) (l := cs) (k := 0) (j := k) hx (by simpa using hk)
  simp only [Nat.zero_add, cnt, Nat.sub_zero] at this
  exact ⟨x, hx, this⟩
theorem Kept.tot (h : Kept cs m) : (sweepC m cs 0).length = cnt m cs.length := by
  have := sweepC_len (m := m) (l := cs) (k := 0)
  simp only [Nat.zero_add, cnt] at this
  exact this
theorem Kept.from (h : Kept cs m) {j : Nat} {y : Commit} (hy : (sweepC m cs 0)[j]? = some y) : ∃ k x, trueAt m k = true ∧ cnt m k = j ∧ cs[k]? = some x ∧ y = newUp m x := by
  have := get_lt hy
  rw [h.tot] at this
  obtain ⟨k, h1, h2, h3⟩ := cnt_hit this
  obtain ⟨x, h4, h5⟩ := h.get h2
  rw [h3, hy] at h5
  exact ⟨k, x, h2, h3, h4, Option.some.inj h5⟩
end
structure Added (r : Repo) (n t : Str) (s : List Feat) (i : Nat) (z : Head) (x : Commit) (q : Repo) (k : Nat) : Prop where
  repo : mRepo r = true
  sheet : mSheet s = true
  word : mWord t = true
  hd : mHead r.heads n = (i : Int)
  at_ : r.heads[i]? = some z
  name : z.name = n
  was : r.commits[z.at_.toNat]? = some x
  ge : 0 ≤ z.at_
  ne : x.sheet ≠ s
  eq : mAdd r n s t = (q, 0)
  heads : q.heads = r.heads.set i ⟨z.name, (k : Int)⟩
  comm : (q.commits = r.commits ∧ k < r.commits.length) ∨ (q.commits = r.commits ++ [⟨[z.at_], s, t⟩] ∧ k = r.commits.length ∧ r.commits.length < 14)
  get : q.commits[k]? = some ⟨[z.at_], s, t⟩
  repo' : mRepo q = true
section
variable {r q : Repo} {n t : Str} {s : List Feat} {i k : Nat} {z : Head} {x : Commit}
theorem Added.w (h : Added r n t s i z x q k) (hw : wRepo r ≤ 1000000) (hs : wL wFeat s ≤ 20000) (ht : t.size ≤ 7) : wRepo q ≤ wRepo r + 20010 := by
  have h1 := mAdd_w (r := r) (n := n) (t := t) (s := s)
  rw [h.eq] at h1
  simp only at h1
  omega
theorem Added.pre (h : Added r n t s i z x q k) : q.commits.take r.commits.length = r.commits := by
  rcases h.comm with ⟨h1, _⟩ | ⟨h1, _⟩ <;> rw [h1] <;> simp
end
def mDrop (r : Repo) (n : Str) : Repo × Int := if mRepo r = true then
    (if mHead r.heads n < 0 then (r, 1) else if r.heads.length < 2 then (r, 2) else (⟨r.commits, r.heads.take (mHead r.heads n).toNat ++ r.heads.drop ((mHead r.heads n).toNat + 1)⟩, 0))
  else (⟨[], []⟩, 4)
theorem i_RepoDrop {r : Repo} {n : Str} (hw : wRepo r ≤ 1048576) : gf_impl_RepoDrop r n = some (mDrop r n) := by
  have hh : r.heads.length ≤ 1048576 := by unfold wRepo wL at hw; omega
  unfold gf_impl_RepoDrop mDrop
  rw [i_RepoOk hw, Option.bind_some]
  by_cases hr : mRepo r = true
  · rw [hr, if_neg (by decide), if_pos rfl, i_cloneRepo hw, Option.bind_some, Option.bind_some, i_Repo_head hh, Option.bind_some]
    simp only
    have hl := repo_len hr
    by_cases h0 : mHead r.heads n < 0
    · rw [if_pos (by simpa using h0), if_pos h0]
    · rw [if_neg (by simpa using h0), if_neg h0]
      have hm := (mHead_range (hs := r.heads) (n := n)).resolve_left h0
      by_cases h1 : r.heads.length < 2
      · rw [if_pos h1, if_pos (by simp; omega)]
      · rw [if_neg h1, if_neg (by simp; omega)]
        unfold gf_slices_Delete_impl_Head_impl_Head
        have ew : IntKind.i64.wrap (mHead r.heads n + 1) = mHead r.heads n + 1 := wrap_id (by omega) (by omega)
        have hs : ∃ q, slc r.heads (mHead r.heads n) (mHead r.heads n + 1) = some q := by
          unfold slc
          rw [if_pos ⟨by omega, by omega, by omega⟩]
          exact ⟨_, rfl⟩
        obtain ⟨q, hs⟩ := hs
        rw [ew, hs, Option.bind_some, if_neg (by simp; omega), Option.bind_some]
        simp only [List.nil_append]
        rw [if_pos (fits_small (by simp; omega))]
        have e : (mHead r.heads n + 1).toNat = (mHead r.heads n).toNat + 1 := by omega
        rw [e]
  · simp only [Bool.not_eq_true] at hr
    rw [hr]
    rfl
theorem s_RepoDrop {r : Repo} {n : Str} (hw : wRepo r ≤ 1048576) : gf_spec_RepoDrop r n = some (mDrop r n) := by
  have hh : r.heads.length ≤ 1048576 := by unfold wRepo wL at hw; omega
  unfold gf_spec_RepoDrop mDrop
  rw [s_RepoOk hw, Option.bind_some]
  by_cases hr : mRepo r = true
  · rw [hr, if_neg (by decide), if_pos rfl, s_l7Copy hw, Option.bind_some, Option.bind_some, s_l7Head hh, Option.bind_some]
    simp only
    have hl := repo_len hr
    by_cases h0 : mHead r.heads n < 0
    · rw [if_pos (by simpa using h0), if_pos h0]
    · rw [if_neg (by simpa using h0), if_neg h0]
      have hm := (mHead_range (hs := r.heads) (n := n)).resolve_left h0
      by_cases h1 : r.heads.length < 2
      · rw [if_pos h1, if_pos (by simp; omega)]
      · rw [if_neg h1, if_neg (by simp; omega)]
        have ew : IntKind.i64.wrap (mHead r.heads n + 1) = mHead r.heads n + 1 := wrap_id (by omega) (by omega)
        have e : (mHead r.heads n + 1).toNat = (mHead r.heads n).toNat + 1 := by omega
        have hs1 : slc r.heads 0 (mHead r.heads n) = some (r.heads.take (mHead r.heads n).toNat) := by
          unfold slc
          rw [if_pos ⟨by omega, by omega, by omega⟩]
          simp
        have hs2 : slc r.heads (mHead r.heads n + 1) (r.heads.length : Int) = some (r.heads.drop ((mHead r.heads n).toNat + 1)) := by
          unfold slc
          rw [if_pos ⟨by omega, by omega, by omega⟩, e]
          simp
        rw [hs1, Option.bind_some, ew, hs2, Option.bind_some, if_pos (by simp; omega)]
  · simp only [Bool.not_eq_true] at hr
    rw [hr]
    rfl
theorem del_sub {α : Type} {l : List α} {k : Nat} : (l.take k ++ l.drop (k + 1)).Sublist l := by
  conv => rhs; rw [← List.take_append_drop k l]
  exact List.Sublist.append (List.Sublist.refl _) (by rw [show k + 1 = k + 1 from rfl, ← List.drop_drop]; exact List.drop_sublist _ _)
theorem sumW_sub {α : Type} {w : α → Nat} {a b : List α} (h : a.Sublist b) : sumW w a ≤ sumW w b := by
  induction h with
  | slnil => exact Nat.le_refl _
  | cons x h ih => simp only [sumW]; omega
  | cons_cons x h ih => simp only [sumW]; omega
theorem wL_sub {α : Type} {w : α → Nat} {a b : List α} (h : a.Sublist b) : wL w a ≤ wL w b := by
  have h1 := sumW_sub (w := w) h
  have h2 := h.length_le
  unfold wL
  omega
theorem left2 {n : Int} {w : Nat} (h : ¬ (w : Int) ≤ n) : decide (left n w < 0) = true := by rw [left_neg h]; rfl
theorem left3 {n : Int} {w : Nat} (h : (w : Int) ≤ n) : left n w = n - w ∧ decide (left n w < 0) = false := by rw [left_pos h]; exact ⟨rfl, by simp; omega⟩
theorem mDrop_w {r : Repo} {n : Str} : wRepo (mDrop r n).1 ≤ wRepo r := by
  unfold mDrop
  split
  · split
    · exact Nat.le_refl _
    · split
      · exact Nat.le_refl _
      · have := wL_sub (w := wHead) (del_sub (l := r.heads) (k := (mHead r.heads n).toNat))
        unfold wRepo
        simp only
        omega
  · exact Nat.zero_le _
theorem law_FnExactRepoDrop (r : Repo) (n : Str) (hr : okRepo r) (_ : okS n) : gf_laws_FnExactRepoDrop r n = some true := by
  unfold gf_laws_FnExactRepoDrop
  by_cases hn : (n.size : Int) > 1048576
  · rw [if_pos (by simpa using hn)]
  · rw [if_neg (by simpa using hn), p_szRepo r 1048576 hr (by decide) (by decide)]
    simp only [Option.bind_some]
    by_cases hw : (wRepo r : Int) ≤ 1048576
    · have h1 : wRepo r ≤ 1048576 := by omega
      rw [(left3 hw).2]
      have hc := cRepo_le r
      obtain ⟨x, hx⟩ := mkn_Repo (x := r) (k := 1) (by omega) (by decide) (by unfold kM; omega)
      have hs := s_RepoDrop (n := n) h1
      have hi := i_RepoDrop (n := n) h1
      have hb := mDrop_w (r := r) (n := n)
      generalize mDrop r n = b at hs hi hb
      obtain ⟨b, c⟩ := b
      simp only at hb
      have hcb := cRepo_le b
      obtain ⟨y, hy1, hy2⟩ := mkh_Repo (x := b) (k := 1) (by omega) (by decide) (by unfold kM; omega)
      have e1 : ¬ ((1 : Int) + cRepo r < 0) := by omega
      have e2 : ¬ ((1 : Int) + cRepo b < 0) := by omega
      simp [p_toRepo r h1, hs, hi, p_eqRepo r (by omega), p_eqRepo b (by omega), hx, hy1, hy2, e1, e2]
    · rw [left2 hw]
      rfl
end Go.Proofs.AM
