/- Lemmas of the proof (TJP), on an abstract machine. Conditions: none. -/
import Derived.Test.YtnnfdbdheoajgabGreatTJD
import Derived.Test.YtnnfdbdheoajgabGreatM2
import Derived.Test.YtnnfdbdheoajgabGreatHT
import Derived.Test.YtnnfdbdheoajgabGreatHN
import Derived.Test.YtnnfdbdheoajgabGreatHV
set_option linter.unusedVariables false
set_option linter.unusedSimpArgs false
set_option maxRecDepth 10000
namespace Go.Proofs.AM
theorem p_szPtS : Sz gf_dd9 (okL okPt) (wL w0) := sz_flat fun _ _ => rfl
theorem p_szTag : Sz gf_dg9 okTag wTag := by
 intro x n hx h0 hn
 unfold gf_dg9
 refine sz_str hx.1 h0 hn fun m0 e0 a0 b0 => ?_
 rw [e0]
 refine sz_str hx.2 a0 b0 fun m1 e1 a1 b1 => ?_
 rw [e1]
 exact sz_end a1
theorem p_szShape : Sz gf_df9 okShape wShape := by
 intro x n hx h0 hn
 unfold gf_df9
 refine sz_sub p_szPtS hx.2 h0 hn fun m0 a0 b0 => ?_
 exact sz_end a0
theorem p_szTagS : Sz gf_dh9 (okL okTag) (wL wTag) := sz_list p_szTag (gl := gl_dh9_1) (fun _ _ => rfl) (fun _ _ _ _ => rfl) (fun _ _ => rfl)
theorem p_szFeat : Sz gf_cy9 okFeat wFeat := by
 intro x n hx h0 hn
 unfold gf_cy9
 refine sz_str hx.1 h0 hn fun m0 e0 a0 b0 => ?_
 rw [e0]
 refine sz_sub p_szShape hx.2.1 a0 b0 fun m1 a1 b1 => ?_
 refine sz_sub p_szTagS hx.2.2 a1 b1 fun m2 a2 b2 => ?_
 exact sz_end a2
theorem p_szIntS : Sz gf_dc9 (okL rI) (wL w0) := sz_flat fun _ _ => rfl
theorem p_szFeatS : Sz gf_cz9 (okL okFeat) (wL wFeat) := sz_list p_szFeat (gl := gl_cz9_1) (fun _ _ => rfl) (fun _ _ _ _ => rfl) (fun _ _ => rfl)
theorem p_szCommit : Sz gf_cw9 okCommit wCommit := by
 intro x n hx h0 hn
 unfold gf_cw9
 refine sz_sub p_szIntS hx.1 h0 hn fun m0 a0 b0 => ?_
 refine sz_sub p_szFeatS hx.2.1 a0 b0 fun m1 a1 b1 => ?_
 refine sz_str hx.2.2 a1 b1 fun m2 e2 a2 b2 => ?_
 rw [e2]
 exact sz_end a2
theorem p_szHead : Sz gf_da9 okHead wHead := by
 intro x n hx h0 hn
 unfold gf_da9
 refine sz_str hx.1 h0 hn fun m0 e0 a0 b0 => ?_
 rw [e0]
 exact sz_end a0
theorem p_szCommitS : Sz gf_cx9 (okL okCommit) (wL wCommit) := sz_list p_szCommit (gl := gl_cx9_1) (fun _ _ => rfl) (fun _ _ _ _ => rfl) (fun _ _ => rfl)
theorem p_szHeadS : Sz gf_db9 (okL okHead) (wL wHead) := sz_list p_szHead (gl := gl_db9_1) (fun _ _ => rfl) (fun _ _ _ _ => rfl) (fun _ _ => rfl)
theorem p_toPt : Cp gf_dp9 w0 := fun _ _ => rfl
theorem p_toPtS : Cp gf_dq9 (wL w0) := cp_list p_toPt (gl := gl_dq9_1) (fun _ _ => rfl) (fun _ _ _ _ => rfl) (fun _ => rfl)
theorem p_toTag : Cp gf_dt9 wTag := fun _ _ => rfl
theorem p_toShape : Cp gf_ds9 wShape := by
 intro x h
 unfold wShape at h
 have h0 := p_toPtS x.pts (by omega)
 simp only [gf_ds9, h0, Option.bind_some]
theorem p_toTagS : Cp gf_du9 (wL wTag) := cp_list p_toTag (gl := gl_du9_1) (fun _ _ => rfl) (fun _ _ _ _ => rfl) (fun _ => rfl)
theorem p_toFeat : Cp gf_dk9 wFeat := by
 intro x h
 unfold wFeat at h
 have h1 := p_toShape x.shape (by omega)
 have h2 := p_toTagS x.tags (by omega)
 simp only [gf_dk9, h1, h2, Option.bind_some]
theorem p_toIntS : Cp gf_do9 (wL w0) := cp_list (cp_id (w := w0)) (gl := gl_do9_1) (fun _ _ => rfl) (fun _ _ _ _ => rfl) (fun _ => rfl)
theorem p_toFeatS : Cp gf_dl9 (wL wFeat) := cp_list p_toFeat (gl := gl_dl9_1) (fun _ _ => rfl) (fun _ _ _ _ => rfl) (fun _ => rfl)
theorem p_toCommit : Cp gf_di9 wCommit := by
 intro x h
 unfold wCommit at h
 have h0 := p_toIntS x.up (by omega)
 have h1 := p_toFeatS x.sheet (by omega)
 simp only [gf_di9, h0, h1, Option.bind_some]
theorem p_toHead : Cp gf_dm9 wHead := fun _ _ => rfl
theorem p_toCommitS : Cp gf_dj9 (wL wCommit) := cp_list p_toCommit (gl := gl_dj9_1) (fun _ _ => rfl) (fun _ _ _ _ => rfl) (fun _ => rfl)
theorem p_toHeadS : Cp gf_dn9 (wL wHead) := cp_list p_toHead (gl := gl_dn9_1) (fun _ _ => rfl) (fun _ _ _ _ => rfl) (fun _ => rfl)
theorem p_eqPt : Eqs gf_cd9 w0 := by
 intro x h
 simp [gf_cd9]
theorem p_eqPtS : Eqs gf_ce9 (wL w0) := eq_list p_eqPt (gl := gl_ce9_1) (fun _ _ => rfl) (fun _ _ _ _ => rfl) (fun _ _ => rfl)
theorem p_eqTag : Eqs gf_ch9 wTag := by
 intro x h
 simp [gf_ch9, seq_self]
theorem p_eqShape : Eqs gf_cg9 wShape := by
 intro x h
 unfold wShape at h
 have h0 := p_eqPtS x.pts (by omega)
 simp [gf_cg9, h0]
theorem p_eqTagS : Eqs gf_ci9 (wL wTag) := eq_list p_eqTag (gl := gl_ci9_1) (fun _ _ => rfl) (fun _ _ _ _ => rfl) (fun _ _ => rfl)
theorem p_eqFeat : Eqs gf_by9 wFeat := by
 intro x h
 unfold wFeat at h
 have h1 := p_eqShape x.shape (by omega)
 have h2 := p_eqTagS x.tags (by omega)
 simp [gf_by9, seq_self, h1, h2]
theorem p_eqIntS : Eqs gf_cc9 (wL w0) := eq_list (eq_id (w := w0)) (gl := gl_cc9_1) (fun _ _ => rfl) (fun _ _ _ _ => rfl) (fun _ _ => rfl)
theorem p_eqFeatS : Eqs gf_bz9 (wL wFeat) := eq_list p_eqFeat (gl := gl_bz9_1) (fun _ _ => rfl) (fun _ _ _ _ => rfl) (fun _ _ => rfl)
theorem p_eqCommit : Eqs gf_bw9 wCommit := by
 intro x h
 unfold wCommit at h
 have h0 := p_eqIntS x.up (by omega)
 have h1 := p_eqFeatS x.sheet (by omega)
 simp [gf_bw9, seq_self, h0, h1]
theorem p_eqHead : Eqs gf_ca9 wHead := by
 intro x h
 simp [gf_ca9, seq_self]
theorem p_eqCommitS : Eqs gf_bx9 (wL wCommit) := eq_list p_eqCommit (gl := gl_bx9_1) (fun _ _ => rfl) (fun _ _ _ _ => rfl) (fun _ _ => rfl)
theorem p_eqHeadS : Eqs gf_cb9 (wL wHead) := eq_list p_eqHead (gl := gl_cb9_1) (fun _ _ => rfl) (fun _ _ _ _ => rfl) (fun _ _ => rfl)
theorem p_szRepo : Sz gf_de9 okRepo wRepo := by
 intro x n hx h0 hn
 unfold gf_de9
 refine sz_sub p_szCommitS hx.1 h0 hn fun m0 a0 b0 => ?_
 refine sz_sub p_szHeadS hx.2 a0 b0 fun m1 a1 b1 => ?_
 exact sz_end a1
theorem p_toRepo : Cp gf_dr9 wRepo := by
 intro x h
 unfold wRepo at h
 have h0 := p_toCommitS x.commits (by omega)
 have h1 := p_toHeadS x.heads (by omega)
 simp only [gf_dr9, h0, h1, Option.bind_some]
theorem p_eqRepo : Eqs gf_cf9 wRepo := by
 intro x h
 unfold wRepo at h
 have h0 := p_eqCommitS x.commits (by omega)
 have h1 := p_eqHeadS x.heads (by omega)
 simp [gf_cf9, h0, h1]
theorem s_WordOk {s : Str} (h : s.size ≤ 1048576) : gf_fe9 s = some (mWord s) := by
 unfold gf_fe9 mWord
 rw [if_pos (fits_small h), loopB (gl := gl_fe9_1) (p := fun (b : UInt8) _ => decide (97 ≤ b.toNat) && decide (b.toNat ≤ 122)) (xs := s.data.toList) (fun _ => rfl) (fun x l k _ => ?_) s.data.toList 0 rfl]
 ·have e1 : ((s.size : Int) ≥ 1) ↔ 1 ≤ s.size := by omega
  have e2 : ((s.size : Int) ≤ 6) ↔ s.size ≤ 6 := by omega
  cases allFrom (fun (b : UInt8) _ => decide (97 ≤ b.toNat) && decide (b.toNat ≤ 122)) s.data.toList 0
  ·rfl
  ·by_cases h1 : 1 ≤ s.size <;> simp [e1, e2, h1]
 ·have e1 : ((x.toNat : Int) < 97) ↔ ¬ 97 ≤ x.toNat := by omega
  have e2 : ((x.toNat : Int) > 122) ↔ ¬ x.toNat ≤ 122 := by omega
  simp only [gl_fe9_1, e1, e2]
  by_cases h1 : 97 ≤ x.toNat <;> by_cases h2 : x.toNat ≤ 122 <;> simp [h1, h2]
theorem i_WordOk {s : Str} (h : s.size ≤ 1048576) : gf_ay9 s = some (mWord s) := by
 unfold gf_ay9 mWord
 rw [if_pos (fits_small h), loopB (gl := gl_ay9_1) (p := fun (b : UInt8) _ => decide (97 ≤ b.toNat) && decide (b.toNat ≤ 122)) (xs := s.data.toList) (fun _ => rfl) (fun x l k _ => ?_) s.data.toList 0 rfl]
 ·have e1 : ((s.size : Int) ≥ 1) ↔ 1 ≤ s.size := by omega
  have e2 : ((s.size : Int) ≤ 6) ↔ s.size ≤ 6 := by omega
  cases allFrom (fun (b : UInt8) _ => decide (97 ≤ b.toNat) && decide (b.toNat ≤ 122)) s.data.toList 0
  ·rfl
  ·by_cases h1 : 1 ≤ s.size <;> simp [gf_bs9, e1, e2, h1]
 ·have e1 : ((x.toNat : Int) < 97) ↔ ¬ 97 ≤ x.toNat := by omega
  have e2 : ((x.toNat : Int) > 122) ↔ ¬ x.toNat ≤ 122 := by omega
  simp only [gl_ay9_1, e1, e2]
  by_cases h1 : 97 ≤ x.toNat <;> by_cases h2 : x.toNat ≤ 122 <;> simp [h1, h2]
theorem s_l1Num (n : Int) : gf_fh9 n = some (mNum n) := by
 unfold gf_fh9 mNum
 by_cases h : -1000 ≤ n <;> simp [h]
theorem i_within (n a b : Int) : gf_bs9 n a b = some (decide (a ≤ n) && decide (n ≤ b)) := by
 unfold gf_bs9
 by_cases h : a ≤ n <;> simp [h]
theorem s_l1Pts {xs : List Pt} (h : xs.length ≤ 1048576) : gf_fi9 xs = some (mPts xs && decide (xs.length ≤ 6)) := by
 unfold gf_fi9 mPts
 rw [if_pos (fits_small h), loopB (gl := gl_fi9_1 xs) (p := fun p k => mNum p.x && (mNum p.y && (decide (k = 0) || decide (xs[k - 1]? ≠ some p)))) (xs := xs) (fun _ => rfl) (fun x l k hd => ?_) xs 0 rfl]
 ·rw [show decide ((xs.length : Int) ≤ 6) = decide (xs.length ≤ 6) from decI]
  exact endB
 ·simp only [gl_fi9_1, s_l1Num, Option.bind_some, ptb, posI]
  rcases Nat.eq_zero_or_pos k with rfl | hk
  ·cases mNum x.x <;> cases mNum x.y <;> simp
  ·obtain ⟨y, hy⟩ := drop_prev hd hk
   have hl := drop_len hd
   have hw := wrap_pred hk (by omega)
   rw [hw, idx_nat, hy]
   have hk' : ¬ k = 0 := by omega
   by_cases e : x = y
   ·subst e
    cases mNum x.x <;> cases mNum x.y <;> simp [hk, hk', hy]
   ·have e' : ¬ y = x := fun h => e h.symm
    cases mNum x.x <;> cases mNum x.y <;> simp [hk, hk', hy, e, e']
theorem s_ShapeOk {x : Shape} (h : x.pts.length ≤ 1048576) : gf_ez9 x = some (mShape x) := by
 unfold gf_ez9 mShape
 rw [s_l1Pts h]
 simp only [Option.bind_some, ptb]
 have c1 : ((x.pts.length : Int) == 1) = decide (x.pts.length = 1) := by
  by_cases e : x.pts.length = 1 <;> simp [e] <;> omega
 have c2 : ((x.pts.length : Int) ≥ 2) ↔ 2 ≤ x.pts.length := by omega
 have c3 : ((x.pts.length : Int) ≥ 3) ↔ 3 ≤ x.pts.length := by omega
 cases mPts x.pts
 ·simp
 ·by_cases hl : x.pts.length ≤ 6
  ·by_cases k1 : x.kind = 1
   ·simp [k1, hl, c1]
   ·by_cases k2 : x.kind = 2
    ·simp [k2, hl, c2]
    ·by_cases k3 : x.kind = 3
     ·by_cases h3 : 3 ≤ x.pts.length
      ·obtain ⟨p, hp⟩ : ∃ p, x.pts[0]? = some p := ⟨x.pts[0], List.getElem?_eq_getElem (by omega)⟩
       obtain ⟨q, hq⟩ : ∃ p, x.pts[x.pts.length - 1]? = some p := ⟨x.pts[x.pts.length - 1], List.getElem?_eq_getElem (by omega)⟩
       have hw := wrap_pred (k := x.pts.length) (by omega) (by omega)
       have e0 : idx x.pts 0 = some p := by rw [← hp]; exact idx_nat (k := 0)
       have e1 : idx x.pts ((x.pts.length - 1 : Nat) : Int) = some q := by rw [← hq]; exact idx_nat
       rw [hw]
       simp [k3, hl, c3, h3, e0, e1, hp, hq]
      ·simp [k3, hl, c3, h3]
     ·simp [k1, k2, k3, hl]
  ·simp [hl]
theorem i_ptOk (p : Pt) : gf_bm9 p = some (mNum p.x && mNum p.y) := by
 unfold gf_bm9 mNum
 rw [i_within, i_within]
 simp only [Option.bind_some]
 cases (decide (-1000 ≤ p.x) && decide (p.x ≤ 1000)) <;> simp
theorem i_ShapeOk {x : Shape} (h : x.pts.length ≤ 1048576) : gf_at9 x = some (mShape x) := by
 unfold gf_at9 mShape
 have c1 : ((x.pts.length : Int) == 1) = decide (x.pts.length = 1) := by
  by_cases e : x.pts.length = 1 <;> simp [e] <;> omega
 have c2 : ((2 : Int) ≤ (x.pts.length : Int)) ↔ 2 ≤ x.pts.length := by omega
 have c3 : ((3 : Int) ≤ (x.pts.length : Int)) ↔ 3 ≤ x.pts.length := by omega
 have c6 : ((x.pts.length : Int) ≤ 6) ↔ x.pts.length ≤ 6 := by omega
 rw [if_pos (fits_small h), loopB (gl := gl_at9_1 x) (p := fun p k => mNum p.x && (mNum p.y && (decide (k = 0) || decide (x.pts[k - 1]? ≠ some p)))) (xs := x.pts) (fun _ => rfl) (fun y l k hd => ?_) x.pts 0 rfl]
 ·show _ = some (mPts x.pts && _)
  have hm : allFrom (fun (p : Pt) k => mNum p.x && (mNum p.y && (decide (k = 0) || decide (x.pts[k - 1]? ≠ some p)))) x.pts 0 = mPts x.pts := rfl
  rw [hm]
  cases mPts x.pts
  ·rfl
  ·simp only [if_true, Option.bind_some, ptb, i_within]
   by_cases k1 : x.kind = 1
   ·by_cases e : x.pts.length = 1 <;> simp [k1, c1, e]
   ·by_cases k2 : x.kind = 2
    ·by_cases e : x.pts.length ≤ 6 <;> simp [k2, c2, c6, e]
    ·by_cases k3 : x.kind = 3
     ·by_cases h3 : 3 ≤ x.pts.length
      ·obtain ⟨p, hp⟩ : ∃ p, x.pts[0]? = some p := ⟨x.pts[0], List.getElem?_eq_getElem (by omega)⟩
       obtain ⟨q, hq⟩ : ∃ p, x.pts[x.pts.length - 1]? = some p := ⟨x.pts[x.pts.length - 1], List.getElem?_eq_getElem (by omega)⟩
       have hw := wrap_pred (k := x.pts.length) (by omega) (by omega)
       have e0 : idx x.pts 0 = some p := by rw [← hp]; exact idx_nat (k := 0)
       have e1 : idx x.pts ((x.pts.length - 1 : Nat) : Int) = some q := by rw [← hq]; exact idx_nat
       rw [hw]
       by_cases e : x.pts.length ≤ 6 <;> simp [k3, c3, c6, h3, e0, e1, hp, hq, e]
      ·simp [k3, c3, c6, h3]
     ·simp [k1, k2, k3]
 ·simp only [gl_at9_1, i_ptOk, Option.bind_some, ptb, posI]
  rcases Nat.eq_zero_or_pos k with rfl | hk
  ·cases mNum y.x <;> cases mNum y.y <;> simp
  ·obtain ⟨z, hz⟩ := drop_prev hd hk
   have hl := drop_len hd
   have hw := wrap_pred hk (by omega)
   rw [hw, idx_nat, hz]
   have hk' : ¬ k = 0 := by omega
   by_cases e : z = y <;> cases mNum y.x <;> cases mNum y.y <;> simp [hk, hk', hz, e]
theorem s_l2Tags {ts : List Tag} (h : wL wTag ts ≤ 1048576) : gf_fo9 ts = some (mTags ts && decide (ts.length ≤ 4)) := by
 have hlen : ts.length ≤ 1048576 := by unfold wL at h; omega
 unfold gf_fo9 mTags
 rw [if_pos (fits_small hlen), loopB (gl := gl_fo9_1 ts) (p := fun t k => mWord t.key && (mWord t.val && (decide (k = 0) || mPrev Tag.key ts t k))) (xs := ts) (fun _ => rfl) (fun x l k hd => ?_) ts 0 rfl]
 ·rw [show decide ((ts.length : Int) ≤ 4) = decide (ts.length ≤ 4) from decI]
  exact endB
 ·have hx : x ∈ ts := List.mem_of_getElem? (drop_get hd)
  have hs := sum_mem (w := wTag) hx
  unfold wL at h
  have hk1 : x.key.size ≤ 1048576 := by have e0 : wTag x = x.key.size + (x.val.size + 0) := rfl; omega
  have hk2 : x.val.size ≤ 1048576 := by have e0 : wTag x = x.key.size + (x.val.size + 0) := rfl; omega
  simp only [gl_fo9_1, s_WordOk hk1, s_WordOk hk2, Option.bind_some, posI, slt_seq]
  rcases Nat.eq_zero_or_pos k with rfl | hk
  ·cases mWord x.key <;> cases mWord x.val <;> simp
  ·obtain ⟨z, hz⟩ := drop_prev hd hk
   have hl := drop_len hd
   have hw := wrap_pred hk (by omega)
   rw [hw, idx_nat, hz]
   have hk' : ¬ k = 0 := by omega
   cases e : slt z.key x.key <;> cases mWord x.key <;> cases mWord x.val <;> simp [hk, hk', hz, e, mPrev]
theorem s_FeatOk {f : Feat} (h : wFeat f ≤ 1048576) : gf_es9 f = some (mFeat f) := by
 unfold wFeat wShape at h
 have h1 : f.id.size ≤ 1048576 := by omega
 have h2 : f.shape.pts.length ≤ 1048576 := by unfold wL at h; omega
 unfold gf_es9 mFeat
 rw [s_WordOk h1, s_ShapeOk h2, s_l2Tags (by omega)]
 simp only [Option.bind_some]
 cases mWord f.id <;> cases mShape f.shape <;> simp
theorem i_FeatOk {f : Feat} (h : wFeat f ≤ 1048576) : gf_ac9 f = some (mFeat f) := by
 unfold wFeat wShape at h
 have h1 : f.id.size ≤ 1048576 := by omega
 have h2 : f.shape.pts.length ≤ 1048576 := by unfold wL at h; omega
 have h3 : wL wTag f.tags ≤ 1048576 := by omega
 have hlen : f.tags.length ≤ 1048576 := by unfold wL at h3; omega
 unfold gf_ac9 mFeat
 rw [if_pos (fits_small hlen), loopB (gl := gl_ac9_1 f) (p := fun t k => mWord t.key && (mWord t.val && (decide (k = 0) || mPrev Tag.key f.tags t k))) (xs := f.tags) (fun _ => rfl) (fun x l k hd => ?_) f.tags 0 rfl]
 ·have hm : allFrom (fun (t : Tag) k => mWord t.key && (mWord t.val && (decide (k = 0) || mPrev Tag.key f.tags t k))) f.tags 0 = mTags f.tags := rfl
  rw [hm, i_WordOk h1, i_ShapeOk h2]
  rw [show decide ((f.tags.length : Int) ≤ 4) = decide (f.tags.length ≤ 4) from decI]
  cases mTags f.tags <;> cases mWord f.id <;> cases mShape f.shape <;> simp
 ·have hx : x ∈ f.tags := List.mem_of_getElem? (drop_get hd)
  have hs := sum_mem (w := wTag) hx
  unfold wL at h3
  have hk1 : x.key.size ≤ 1048576 := by have e0 : wTag x = x.key.size + (x.val.size + 0) := rfl; omega
  have hk2 : x.val.size ≤ 1048576 := by have e0 : wTag x = x.key.size + (x.val.size + 0) := rfl; omega
  simp only [gl_ac9_1, i_WordOk hk1, i_WordOk hk2, Option.bind_some, posI]
  rcases Nat.eq_zero_or_pos k with rfl | hk
  ·cases mWord x.key <;> cases mWord x.val <;> simp
  ·obtain ⟨z, hz⟩ := drop_prev hd hk
   have hl := drop_len hd
   have hw := wrap_pred hk (by omega)
   rw [hw, idx_nat, hz]
   have hk' : ¬ k = 0 := by omega
   cases e : slt z.key x.key <;> cases mWord x.key <;> cases mWord x.val <;> simp [hk, hk', hz, e, mPrev]
theorem s_SheetOk {fs : List Feat} (h : wL wFeat fs ≤ 1048576) : gf_fc9 fs = some (mSheet fs) := by
 have hlen : fs.length ≤ 1048576 := by unfold wL at h; omega
 unfold gf_fc9 mSheet
 rw [if_pos (fits_small hlen), loopB (gl := gl_fc9_1 fs) (p := fun f k => mFeat f && (decide (k = 0) || mPrev Feat.id fs f k)) (xs := fs) (fun _ => rfl) (fun x l k hd => ?_) fs 0 rfl]
 ·rw [show decide ((fs.length : Int) ≤ 8) = decide (fs.length ≤ 8) from decI]
  exact endB
 ·have hx : x ∈ fs := List.mem_of_getElem? (drop_get hd)
  have hs := sum_mem (w := wFeat) hx
  unfold wL at h
  simp only [gl_fc9_1, s_FeatOk (f := x) (by omega), Option.bind_some, posI, slt_seq]
  rcases Nat.eq_zero_or_pos k with rfl | hk
  ·cases mFeat x <;> simp
  ·obtain ⟨z, hz⟩ := drop_prev hd hk
   have hl := drop_len hd
   have hw := wrap_pred hk (by omega)
   rw [hw, idx_nat, hz]
   have hk' : ¬ k = 0 := by omega
   cases e : slt z.id x.id <;> cases mFeat x <;> simp [hk, hk', hz, e, mPrev]
theorem i_SheetOk {fs : List Feat} (h : wL wFeat fs ≤ 1048576) : gf_aw9 fs = some (mSheet fs) := by
 have hlen : fs.length ≤ 1048576 := by unfold wL at h; omega
 unfold gf_aw9 mSheet
 rw [if_pos (fits_small hlen), loopB (gl := gl_aw9_1 fs) (p := fun f k => mFeat f && (decide (k = 0) || mPrev Feat.id fs f k)) (xs := fs) (fun _ => rfl) (fun x l k hd => ?_) fs 0 rfl]
 ·rw [show decide ((fs.length : Int) ≤ 8) = decide (fs.length ≤ 8) from decI]
  exact endB
 ·have hx : x ∈ fs := List.mem_of_getElem? (drop_get hd)
  have hs := sum_mem (w := wFeat) hx
  unfold wL at h
  simp only [gl_aw9_1, i_FeatOk (f := x) (by omega), Option.bind_some, posI, slt_seq]
  rcases Nat.eq_zero_or_pos k with rfl | hk
  ·cases mFeat x <;> simp
  ·obtain ⟨z, hz⟩ := drop_prev hd hk
   have hl := drop_len hd
   have hw := wrap_pred hk (by omega)
   rw [hw, idx_nat, hz]
   have hk' : ¬ k = 0 := by omega
   cases e : slt z.id x.id <;> cases mFeat x <;> simp [hk, hk', hz, e, mPrev]
theorem s_l1Same {a b : List Pt} (h : a.length ≤ 1048576) : gf_fj9 a b = some (decide (a = b)) := eqd_list (gl := gl_fj9_1) (ok := fun _ => True) (fun _ _ => rfl) (fun a x l k y _ hy => by
 simp only [gl_fj9_1, idx_nat, hy, Option.bind_some, ptb]
 by_cases e : x = y <;> simp [e]) (fun _ _ => rfl) h (fun _ _ => trivial)
theorem i_EqPt {a b : List Pt} (h : a.length ≤ 1048576) : gf_ec9 a b = some (decide (a = b)) := eqd_list (gl := gl_ec9_1) (ok := fun _ => True) (fun _ _ => rfl) (fun a x l k y _ hy => by
 simp only [gl_ec9_1, idx_nat, hy, Option.bind_some, ptb]
 by_cases e : x = y <;> simp [e]) (fun _ _ => rfl) h (fun _ _ => trivial)
theorem s_l2Same {a b : List Tag} (h : a.length ≤ 1048576) : gf_fn9 a b = some (decide (a = b)) := eqd_list (gl := gl_fn9_1) (ok := fun _ => True) (fun _ _ => rfl) (fun a x l k y _ hy => by
 simp only [gl_fn9_1, idx_nat, hy, Option.bind_some, tagb]
 by_cases e : x = y <;> simp [e]) (fun _ _ => rfl) h (fun _ _ => trivial)
theorem i_EqTag {a b : List Tag} (h : a.length ≤ 1048576) : gf_ed9 a b = some (decide (a = b)) := eqd_list (gl := gl_ed9_1) (ok := fun _ => True) (fun _ _ => rfl) (fun a x l k y _ hy => by
 simp only [gl_ed9_1, idx_nat, hy, Option.bind_some, tagb]
 by_cases e : x = y <;> simp [e]) (fun _ _ => rfl) h (fun _ _ => trivial)
theorem s_l7Ints {a b : List Int} (h : a.length ≤ 1048576) : gf_gj9 a b = some (decide (a = b)) := eqd_list (gl := gl_gj9_1) (ok := fun _ => True) (fun _ _ => rfl) (fun a x l k y _ hy => by
 simp only [gl_gj9_1, idx_nat, hy, Option.bind_some]
 by_cases e : x = y <;> simp [e]) (fun _ _ => rfl) h (fun _ _ => trivial)
theorem i_EqInt {a b : List Int} (h : a.length ≤ 1048576) : gf_ee9 a b = some (decide (a = b)) := eqd_list (gl := gl_ee9_1) (ok := fun _ => True) (fun _ _ => rfl) (fun a x l k y _ hy => by
 simp only [gl_ee9_1, idx_nat, hy, Option.bind_some]
 by_cases e : x = y <;> simp [e]) (fun _ _ => rfl) h (fun _ _ => trivial)
theorem s_ShapeSame {a b : Shape} (h : a.pts.length ≤ 1048576) : gf_fa9 a b = some (decide (a = b)) := by
 unfold gf_fa9
 rw [s_l1Same h]
 obtain ⟨k, p⟩ := a; obtain ⟨k2, p2⟩ := b
 by_cases h1 : k = k2 <;> by_cases h2 : p = p2 <;> simp [h1, h2]
theorem s_FeatSame {a b : Feat} (h : wFeat a ≤ 1048576) : gf_et9 a b = some (decide (a = b)) := by
 unfold wFeat wShape wL at h
 unfold gf_et9
 rw [s_ShapeSame (by omega), s_l2Same (by omega), seq_dec]
 obtain ⟨i, s, t⟩ := a; obtain ⟨i2, s2, t2⟩ := b
 by_cases h1 : i = i2 <;> by_cases h2 : s = s2 <;> by_cases h3 : t = t2 <;> simp [h1, h2, h3]
theorem i_ShapeSame {a b : Shape} (h : a.pts.length ≤ 1048576) : gf_au9 a b = some (decide (a = b)) := by
 unfold gf_au9
 rw [i_EqPt h]
 obtain ⟨k, p⟩ := a; obtain ⟨k2, p2⟩ := b
 by_cases h1 : k = k2 <;> by_cases h2 : p = p2 <;> simp [h1, h2]
theorem i_FeatSame {a b : Feat} (h : wFeat a ≤ 1048576) : gf_ad9 a b = some (decide (a = b)) := by
 unfold wFeat wShape wL at h
 unfold gf_ad9
 rw [i_ShapeSame (by omega), i_EqTag (by omega), seq_dec]
 obtain ⟨i, s, t⟩ := a; obtain ⟨i2, s2, t2⟩ := b
 by_cases h1 : i = i2 <;> by_cases h2 : s = s2 <;> by_cases h3 : t = t2 <;> simp [h1, h2, h3]
theorem s_SheetSame {a b : List Feat} (h : wL wFeat a ≤ 1048576) : gf_fd9 a b = some (decide (a = b)) := eqd_list (gl := gl_fd9_1) (ok := fun x => wFeat x ≤ 1048576) (fun _ _ => rfl) (fun a x l k y hx hy => by
 simp only [gl_fd9_1, idx_nat, hy, Option.bind_some, s_FeatSame hx]
 by_cases e : x = y <;> simp [e]) (fun _ _ => rfl) (by unfold wL at h; omega) (fun x hx => by have := sum_mem (w := wFeat) hx; unfold wL at h; omega)
theorem i_EqFeat {a b : List Feat} (h : wL wFeat a ≤ 1048576) : gf_eb9 a b = some (decide (a = b)) := eqd_list (gl := gl_eb9_1) (ok := fun x => wFeat x ≤ 1048576) (fun _ _ => rfl) (fun a x l k y hx hy => by
 simp only [gl_eb9_1, idx_nat, hy, Option.bind_some, i_FeatSame hx]
 by_cases e : x = y <;> simp [e]) (fun _ _ => rfl) (by unfold wL at h; omega) (fun x hx => by have := sum_mem (w := wFeat) hx; unfold wL at h; omega)
theorem i_SheetSame {a b : List Feat} (h : wL wFeat a ≤ 1048576) : gf_ax9 a b = some (decide (a = b)) := by
 unfold gf_ax9
 rw [i_EqFeat h]
 rfl
theorem s_sameCommit {a b : Commit} (h : wCommit a ≤ 1048576) : gf_gl9 a b = some (decide (a = b)) := by
 unfold wCommit at h
 unfold gf_gl9
 rw [s_l7Ints (by unfold wL at h; omega), s_SheetSame (by omega), seq_dec]
 obtain ⟨i, s, t⟩ := a; obtain ⟨i2, s2, t2⟩ := b
 by_cases h1 : i = i2 <;> by_cases h2 : s = s2 <;> by_cases h3 : t = t2 <;> simp [h1, h2, h3]
theorem i_sameCommit {a b : Commit} (h : wCommit a ≤ 1048576) : gf_bn9 a b = some (decide (a = b)) := by
 unfold wCommit at h
 unfold gf_bn9
 rw [i_EqInt (by unfold wL at h; omega), i_SheetSame (by omega), seq_dec]
 obtain ⟨i, s, t⟩ := a; obtain ⟨i2, s2, t2⟩ := b
 by_cases h1 : i = i2 <;> by_cases h2 : s = s2 <;> by_cases h3 : t = t2 <;> simp [h1, h2, h3]
theorem s_l7Find {r : Repo} {c : Commit} (h : wL wCommit r.commits ≤ 1048576) : gf_gg9 r c = some (mFind r.commits c) := by
 unfold gf_gg9 mFind
 rw [if_pos (fits_small (by unfold wL at h; omega))]
 exact loopF (gl := gl_gg9_1 c) (ok := fun x => wCommit x ≤ 1048576) (fun _ => rfl) (fun x l k hx => by simp only [gl_gg9_1, s_sameCommit hx, Option.bind_some]) _ 0 fun x hx => by have := sum_mem (w := wCommit) hx; unfold wL at h; omega
theorem i_Repo_commit {r : Repo} {c : Commit} (h : wL wCommit r.commits ≤ 1048576) : gf_al9 r c = some (mFind r.commits c) := by
 have key : gf_eh9 r.commits c = some (mFind r.commits c) := by
  unfold gf_eh9 mFind
  rw [if_pos (fits_small (by unfold wL at h; omega))]
  exact loopF (gl := gl_eh9_1 c) (ok := fun x => wCommit x ≤ 1048576) (fun _ => rfl) (fun x l k hx => by simp only [gl_eh9_1, gf_am9, i_sameCommit hx, Option.bind_some]) _ 0 fun x hx => by have := sum_mem (w := wCommit) hx; unfold wL at h; omega
 unfold gf_al9
 rw [key]
 rfl
theorem s_l7Head {r : Repo} {n : Str} (h : r.heads.length ≤ 1048576) : gf_gh9 r n = some (mHead r.heads n) := by
 unfold gf_gh9 mHead
 rw [if_pos (fits_small h)]
 exact loopF (gl := gl_gh9_1 n) (ok := fun _ => True) (fun _ => rfl) (fun x l k _ => by simp only [gl_gh9_1, seq_dec]) _ 0 fun _ _ => trivial
theorem i_Repo_head {r : Repo} {n : Str} (h : r.heads.length ≤ 1048576) : gf_an9 r n = some (mHead r.heads n) := by
 have key : gf_el9 r.heads n = some (mHead r.heads n) := by
  unfold gf_el9 mHead
  rw [if_pos (fits_small h)]
  exact loopF (gl := gl_el9_1 n) (ok := fun _ => True) (fun _ => rfl) (fun x l k _ => by simp only [gl_el9_1, gf_ao9, seq_dec, Option.bind_some]) _ 0 fun _ _ => trivial
 unfold gf_an9
 rw [key]
 rfl
theorem s_l7Up {up : List Int} {k : Nat} (h : up.length ≤ 1048576) : gf_gm9 up (k : Int) = some (mUp up k) := by
 unfold gf_gm9 mUp
 rw [if_pos (fits_small h), loopB (gl := gl_gm9_1 (k : Int)) (p := fun (x : Int) _ => decide (0 ≤ x) && decide (x < (k : Int))) (xs := up) (fun _ => rfl) (fun x l j _ => ?_) up 0 rfl]
 ·generalize allFrom (fun (x : Int) _ => decide (0 ≤ x) && decide (x < (k : Int))) up 0 = A
  cases A
  ·rfl
  ·have e1 : decide ((k : Int) > 0) = decide (0 < k) := posI
   match up with
   | [] => cases e : decide (0 < k) <;> simp [e1, e]
   | [a] => cases e : decide (0 < k) <;> simp [e1, e]
   | [a, b] =>
    have i0 : idx [a, b] 0 = some a := rfl
    have i1 : idx [a, b] 1 = some b := rfl
    by_cases e2 : a = b
    ·subst e2
     cases e : decide (0 < k) <;> simp [e1, e, i0, i1]
    ·cases e : decide (0 < k) <;> simp [e1, e, i0, i1, e2]
   | a :: b :: c :: l =>
    have e2 : ¬ ((l.length : Int) + 1 + 1 + 1 ≤ 2) := by omega
    simp [e2]
 ·have e1 : (x ≥ (k : Int)) ↔ ¬ x < (k : Int) := by omega
  have e2 : (x < 0) ↔ ¬ 0 ≤ x := by omega
  simp only [gl_gm9_1, e1, e2]
  by_cases h1 : 0 ≤ x <;> by_cases h2 : x < (k : Int) <;> simp [h1, h2]
theorem s_RepoOk {r : Repo} (h : wRepo r ≤ 1048576) : gf_ex9 r = some (mRepo r) := by
 unfold wRepo at h
 have hc : wL wCommit r.commits ≤ 1048576 := by omega
 have hh : wL wHead r.heads ≤ 1048576 := by omega
 have hcl : r.commits.length ≤ 1048576 := by unfold wL at hc; omega
 have hhl : r.heads.length ≤ 1048576 := by unfold wL at hh; omega
 have c1 : ((r.commits.length : Int) < 1) ↔ ¬ 1 ≤ r.commits.length := by omega
 have c2 : ((r.commits.length : Int) > 14) ↔ ¬ r.commits.length ≤ 14 := by omega
 have c3 : ((r.heads.length : Int) < 1) ↔ ¬ 1 ≤ r.heads.length := by omega
 have c4 : ((r.heads.length : Int) > 4) ↔ ¬ r.heads.length ≤ 4 := by omega
 have k1 : gl_ex9_1 r r.commits 0 = some (if mCommits r.commits = true then .inr () else .inl false) := by
  refine loopB (gl := gl_ex9_1 r) (p := fun c k => mUp c.up k && (mSheet c.sheet && (mWord c.note && decide (mFind r.commits c = (k : Int))))) (xs := r.commits) (fun _ => rfl) (fun x l k hd => ?_) r.commits 0 rfl
  have hx : x ∈ r.commits := List.mem_of_getElem? (drop_get hd)
  have hs := sum_mem (w := wCommit) hx
  have e0 : wCommit x = wL w0 x.up + (wL wFeat x.sheet + (x.note.size + 0)) := rfl
  have hs' : wCommit x ≤ 1048576 := by unfold wL at hc; omega
  have hu : x.up.length ≤ 1048576 := by have : wL w0 x.up = x.up.length + sumW w0 x.up := rfl; omega
  simp only [gl_ex9_1, s_l7Up hu, s_SheetOk (fs := x.sheet) (by omega), s_WordOk (s := x.note) (by omega), s_l7Find hc, Option.bind_some]
  by_cases e : mFind r.commits x = (k : Int) <;> cases mUp x.up k <;> cases mSheet x.sheet <;> cases mWord x.note <;> simp [e]
 have k2 : gl_ex9_2 r r.heads 0 = some (if mHeads r.commits.length r.heads = true then .inr () else .inl false) := by
  refine loopB (gl := gl_ex9_2 r) (p := fun h k => mWord h.name && (decide (mHead r.heads h.name = (k : Int)) && (decide (0 ≤ h.at_) && decide (h.at_ < (r.commits.length : Int))))) (xs := r.heads) (fun _ => rfl) (fun x l k hd => ?_) r.heads 0 rfl
  have hx : x ∈ r.heads := List.mem_of_getElem? (drop_get hd)
  have hs := sum_mem (w := wHead) hx
  have e0 : wHead x = x.name.size + 0 := rfl
  have hs' : x.name.size ≤ 1048576 := by unfold wL at hh; omega
  have d1 : (x.at_ < 0) ↔ ¬ 0 ≤ x.at_ := by omega
  have d2 : (x.at_ ≥ (r.commits.length : Int)) ↔ ¬ x.at_ < (r.commits.length : Int) := by omega
  simp only [gl_ex9_2, s_WordOk hs', s_l7Head hhl, Option.bind_some, d1, d2]
  by_cases e : mHead r.heads x.name = (k : Int) <;> by_cases e1 : 0 ≤ x.at_ <;> by_cases e2 : x.at_ < (r.commits.length : Int) <;> cases mWord x.name <;> simp [e, e1, e2]
 unfold gf_ex9 mRepo
 rw [k1, k2, if_pos (fits_small hcl), if_pos (fits_small hhl)]
 simp only [c1, c2, c3, c4]
 by_cases h1 : 1 ≤ r.commits.length <;> by_cases h2 : r.commits.length ≤ 14 <;> by_cases h3 : 1 ≤ r.heads.length <;> by_cases h4 : r.heads.length ≤ 4 <;> cases mCommits r.commits <;> cases mHeads r.commits.length r.heads <;> simp [h1, h2, h3, h4]
theorem i_version {r : Repo} {k : Int} (h : r.commits.length ≤ 1048576) : gf_aq9 r k = some (decide (0 ≤ k) && decide (k < (r.commits.length : Int))) := by
 unfold gf_aq9
 rw [wrap_id (by omega) (by omega), i_within]
 have e : (k ≤ (r.commits.length : Int) - 1) ↔ k < (r.commits.length : Int) := by omega
 simp [e]
theorem i_Contains0 (x : Int) : gf_dz9 [] x = some false := rfl
theorem i_Contains1 (a x : Int) : gf_dz9 [a] x = some (decide (x = a)) := by
 have hf : fits 1 = true := fits_small (by omega)
 by_cases e : x = a
 ·subst e
  simp [gf_dz9, gf_eq9, hf, gl_eq9_1]
 ·simp [gf_dz9, gf_eq9, hf, gl_eq9_1, e]
theorem i_up5 {c : Commit} {k : Nat} (hk : k ≤ 1048576) (h : c.up.length ≤ 2) : gl_ak9_5 k c c.up 0 = some (if (allFrom (fun (x : Int) _ => decide (0 ≤ x) && decide (x < (k : Int))) c.up 0 && decide (c.up[0]? = none ∨ c.up[0]? ≠ c.up[1]?)) = true then .inr () else .inl false) := by
 have hw : IntKind.i64.wrap ((k : Int) - 1) = (k : Int) - 1 := wrap_id (by omega) (by omega)
 have hi : ∀ x : Int, (x ≤ (k : Int) - 1) ↔ x < (k : Int) := fun x => by omega
 obtain ⟨up, sh, nt⟩ := c
 match up, h with
 | [], _ => rfl
 | [a], _ =>
  have s0 : slc [a] 0 ((0 : Nat) : Int) = some [] := by simp [slc]
  simp only [gl_ak9_5, i_within, hw, hi, Option.bind_some, s0, i_Contains0, allFrom]
  by_cases h1 : 0 ≤ a <;> by_cases h2 : a < (k : Int) <;> simp [h1, h2]
 | [a, b], _ =>
  have s0 : slc [a, b] 0 ((0 : Nat) : Int) = some [] := by simp [slc]
  have s1 : slc [a, b] 0 ((0 + 1 : Nat) : Int) = some [a] := by simp [slc]
  simp only [gl_ak9_5, i_within, hw, hi, Option.bind_some, s0, s1, i_Contains0, i_Contains1, allFrom]
  by_cases e : b = a
  ·subst e
   by_cases h1 : 0 ≤ b <;> by_cases h2 : b < (k : Int) <;> simp [h1, h2]
  ·have e' : ¬ a = b := fun h => e h.symm
   by_cases h1 : 0 ≤ a <;> by_cases h2 : a < (k : Int) <;> by_cases h3 : 0 ≤ b <;> by_cases h4 : b < (k : Int) <;> simp [h1, h2, h3, h4, e, e']
 | _ :: _ :: _ :: _, h => simp at h
theorem i_RepoOk {r : Repo} (h : wRepo r ≤ 1048576) : gf_ak9 r = some (mRepo r) := by
 unfold wRepo at h
 have hc : wL wCommit r.commits ≤ 1048576 := by omega
 have hh : wL wHead r.heads ≤ 1048576 := by omega
 have hcl : r.commits.length ≤ 1048576 := by unfold wL at hc; omega
 have hhl : r.heads.length ≤ 1048576 := by unfold wL at hh; omega
 have c1 : ((1 : Int) ≤ r.commits.length) ↔ 1 ≤ r.commits.length := by omega
 have c2 : ((r.commits.length : Int) ≤ 14) ↔ r.commits.length ≤ 14 := by omega
 have c3 : ((1 : Int) ≤ r.heads.length) ↔ 1 ≤ r.heads.length := by omega
 have c4 : ((r.heads.length : Int) ≤ 4) ↔ r.heads.length ≤ 4 := by omega
 have k1 : gl_ak9_4 r r.commits 0 = some (if mCommits r.commits = true then .inr () else .inl false) := by
  refine loopB (gl := gl_ak9_4 r) (p := fun c k => mUp c.up k && (mSheet c.sheet && (mWord c.note && decide (mFind r.commits c = (k : Int))))) (xs := r.commits) (fun _ => rfl) (fun x l k hd => ?_) r.commits 0 rfl
  have hx : x ∈ r.commits := List.mem_of_getElem? (drop_get hd)
  have hkl := drop_len hd
  have hs := sum_mem (w := wCommit) hx
  have e0 : wCommit x = wL w0 x.up + (wL wFeat x.sheet + (x.note.size + 0)) := rfl
  have hs' : wCommit x ≤ 1048576 := by unfold wL at hc; omega
  have hu : x.up.length ≤ 1048576 := by have : wL w0 x.up = x.up.length + sumW w0 x.up := rfl; omega
  have d1 : (((k : Int) == 0) == ((x.up.length : Int) == 0)) = (decide (0 < x.up.length) == decide (0 < k)) := by
   rw [zI, zI, posD, posD]
   cases decide (k = 0) <;> cases decide (x.up.length = 0) <;> rfl
  have d2 : ((x.up.length : Int) > 2) ↔ ¬ x.up.length ≤ 2 := by omega
  obtain ⟨B, hB⟩ : ∃ B, (decide (0 < x.up.length) == decide (0 < k)) = B := ⟨_, rfl⟩
  rw [hB] at d1
  simp only [gl_ak9_4, i_SheetOk (fs := x.sheet) (by omega), i_WordOk (s := x.note) (by omega), i_Repo_commit hc, Option.bind_some, d1, d2, mUp, hB]
  clear d1 hB
  by_cases b : x.up.length ≤ 2
  ·rw [i_up5 (by omega) b, if_pos (fits_small hu)]
   obtain ⟨D, hD⟩ : ∃ D, (decide (x.up[0]? = none ∨ x.up[0]? ≠ x.up[1]?)) = D := ⟨_, rfl⟩
   rw [hD]
   clear hD
   by_cases e : mFind r.commits x = (k : Int) <;> cases B <;> cases mSheet x.sheet <;> cases mWord x.note <;> cases allFrom (fun (x : Int) _ => decide (0 ≤ x) && decide (x < (k : Int))) x.up 0 <;> cases D <;> simp [e, b]
  ·by_cases e : mFind r.commits x = (k : Int) <;> cases B <;> cases mSheet x.sheet <;> cases mWord x.note <;> simp [e, b]
 have k2 : gl_ak9_6 r r.heads 0 = some (if mHeads r.commits.length r.heads = true then .inr () else .inl false) := by
  refine loopB (gl := gl_ak9_6 r) (p := fun h k => mWord h.name && (decide (mHead r.heads h.name = (k : Int)) && (decide (0 ≤ h.at_) && decide (h.at_ < (r.commits.length : Int))))) (xs := r.heads) (fun _ => rfl) (fun x l k hd => ?_) r.heads 0 rfl
  have hx : x ∈ r.heads := List.mem_of_getElem? (drop_get hd)
  have hs := sum_mem (w := wHead) hx
  have e0 : wHead x = x.name.size + 0 := rfl
  have hs' : x.name.size ≤ 1048576 := by unfold wL at hh; omega
  simp only [gl_ak9_6, i_WordOk hs', i_Repo_head hhl, i_version hcl, Option.bind_some]
  by_cases e : mHead r.heads x.name = (k : Int) <;> by_cases e1 : 0 ≤ x.at_ <;> by_cases e2 : x.at_ < (r.commits.length : Int) <;> cases mWord x.name <;> simp [e, e1, e2]
 unfold gf_ak9 mRepo
 rw [k1, k2, if_pos (fits_small hcl), if_pos (fits_small hhl), i_within, i_within]
 simp only [c1, c2, c3, c4, Option.bind_some]
 by_cases h1 : 1 ≤ r.commits.length <;> by_cases h2 : r.commits.length ≤ 14 <;> by_cases h3 : 1 ≤ r.heads.length <;> by_cases h4 : r.heads.length ≤ 4 <;> cases mCommits r.commits <;> cases mHeads r.commits.length r.heads <;> simp [h1, h2, h3, h4]
theorem s_l7In {r : Repo} {k : Int} (h : wRepo r ≤ 1048576) : gf_gi9 r k = some (mRepo r && (decide (0 ≤ k) && decide (k < (r.commits.length : Int)))) := by
 unfold gf_gi9
 rw [s_RepoOk h]
 by_cases h1 : 0 ≤ k <;> cases mRepo r <;> simp [h1]
theorem rep_get {n j : Nat} : (List.replicate n false)[j]? ≠ some true := by
 rw [List.getElem?_replicate]
 split <;> simp
theorem marks_init {cs : List Commit} {F : List Nat} (hF : ∀ f ∈ F, f < cs.length) : Marks cs F cs.length (setAll (List.replicate cs.length false) (F.map fun (f : Nat) => (f : Int))) where
 len := by rw [setAll_len, List.length_replicate]
 snd := fun j hj => by
  rcases setAll_get.1 hj with hj | ⟨_, u, hu, rfl⟩
  ·exact absurd hj rep_get
  ·obtain ⟨f, hf, rfl⟩ := List.mem_map.1 hu
   exact ⟨f, hf, .refl f⟩
 frm := fun f hf => setAll_get.2 (.inr ⟨by rw [List.length_replicate]; exact hF f hf, f, List.mem_map.2 ⟨f, hf, rfl⟩, rfl⟩)
 cl := fun j x u hj hb hx hu => by
  have := get_lt hx
  omega
theorem s_l7Marks_1 : ∀ (l : List Int) (k : Nat) (m : List Bool), (∀ u ∈ l, 0 ≤ u ∧ u < (m.length : Int)) → gl_gk9_1 l k m = some (setAll m l)
 | [], k, m, h => rfl
 | u :: l, k, m, h => by
  have hu := h u (by simp)
  obtain ⟨b, hb⟩ := getI (xs := m) (i := u.toNat) (by omega)
  simp only [gl_gk9_1, idx_int hu.1, hb, Option.bind_some]
  exact s_l7Marks_1 l (k + 1) _ fun v hv => by
   rw [List.length_set]
   exact h v (by simp [hv])
theorem s_l7Marks_6 {r : Repo} {v : Nat} {x : Commit} (hx : r.commits[v]? = some x) (hu : ∀ u ∈ x.up, 0 ≤ u ∧ u < (v : Int)) (h2 : x.up.length ≤ 2) : ∀ (l : List Int) (j n : Nat) (m : List Bool), x.up.drop j = l → l.length < n → m[v]? = some true → gl_gk9_6 r (v : Int) n (j : Int) m = some (setAll m l)
 | _, _, 0, _, _, h, _ => by omega
 | [], j, n + 1, m, h, hn, hm => by
  simp only [gl_gk9_6, idx_nat, hx, Option.bind_some, drop_ge h]
  rfl
 | u :: l, j, n + 1, m, h, hn, hm => by
  have hue := drop_get h
  have hul := hu u (List.mem_of_getElem? hue)
  have hvl := get_lt hm
  obtain ⟨b, hb⟩ := getI (xs := m) (i := u.toNat) (by omega)
  have hjl := drop_len h
  have hw : IntKind.i64.wrap ((j : Int) + 1) = ((j + 1 : Nat) : Int) := by rw [wrap_id (by omega) (by omega)]; omega
  simp only [gl_gk9_6, idx_nat, hx, Option.bind_some, drop_lt h, hm, hue, idx_int hul.1, hb, if_true, hw]
  exact s_l7Marks_6 hx hu h2 l (j + 1) n _ (drop_next h) (by simp at hn; omega) (by rw [List.getElem?_set_ne (by omega)]; exact hm)
theorem s_l7Marks_6f {r : Repo} {v n : Nat} {x : Commit} {m : List Bool} (hx : r.commits[v]? = some x) (hm : m[v]? = some false) : gl_gk9_6 r (v : Int) (n + 1) 0 m = some m := by
 simp only [gl_gk9_6, idx_nat, hx, Option.bind_some, hm]
 split
 ·rfl
 ·rfl
theorem s_l7Marks_5 {r : Repo} {F : List Nat} (hc : Hist r.commits) : ∀ (k n : Nat) (m : List Bool), k < n → k ≤ r.commits.length → k ≤ 1048576 → Marks r.commits F k m → gl_gk9_5 r n ((k : Int) - 1) m = some (mark r.commits F)
 | _, 0, _, h, _, _, _ => by omega
 | 0, n + 1, m, _, _, _, h => by
  rw [h.fin]
  rfl
 | k + 1, n + 1, m, hn, hk, hb, h => by
  obtain ⟨x, hx⟩ := getI (xs := r.commits) (i := k) (by omega)
  obtain ⟨b, hb2⟩ := getI (xs := m) (i := k) (by rw [h.len]; omega)
  have e1 : (((k + 1 : Nat) : Int) - 1) = (k : Int) := by omega
  have hw : IntKind.i64.wrap ((k : Int) - 1) = (k : Int) - 1 := wrap_id (by omega) (by omega)
  have hge : decide ((k : Int) ≥ 0) = true := decide_eq_true (by omega)
  have hr : rounds = 4194303 + 1 := rfl
  rw [e1]
  simp only [gl_gk9_5, hge, if_true, hw]
  cases b
  ·rw [hr, s_l7Marks_6f hx hb2]
   exact s_l7Marks_5 hc k n m (by omega) (by omega) (by omega) (h.skip (by rw [hb2]; simp))
  ·have h2 := hc.two x (List.mem_of_getElem? hx)
   have := s_l7Marks_6 hx (hc.lt k x hx) h2 x.up 0 rounds m rfl (by rw [hr]; omega) hb2
   simp only [Int.ofNat_zero, Int.natCast_zero] at this
   rw [this]
   exact s_l7Marks_5 hc k n _ (by omega) (by omega) (by omega) (h.step hc hb2 hx)
theorem s_l7Marks {r : Repo} {F : List Nat} (hc : Hist r.commits) (hl : r.commits.length ≤ 1048576) (hF : ∀ f ∈ F, f < r.commits.length) (hFl : F.length ≤ 1048576) : gf_gk9 r (F.map fun (f : Nat) => (f : Int)) = some (mark r.commits F) := by
 have hr : rounds = 4194303 + 1 := rfl
 unfold gf_gk9
 rw [if_pos (by simp [fits_small hl]), if_pos (fits_small (by simpa using hFl)), Int.toNat_natCast, s_l7Marks_1 _ _ _ (fun u hu => by
  obtain ⟨f, hf, rfl⟩ := List.mem_map.1 hu
  have := hF f hf
  rw [List.length_replicate]
  omega), wrap_id (by omega) (by omega)]
 simp only [Option.bind_some]
 rw [s_l7Marks_5 hc r.commits.length rounds _ (by rw [hr]; omega) (Nat.le_refl _) hl (marks_init hF)]
 rfl
theorem s_l7Marks1 {r : Repo} {k : Nat} (hc : Hist r.commits) (hl : r.commits.length ≤ 1048576) (hk : k < r.commits.length) : gf_gk9 r [(k : Int)] = some (mark r.commits [k]) := by
 have := s_l7Marks (r := r) (F := [k]) hc hl (by simpa using hk) (by simp)
 simpa using this
theorem i_past_5 : ∀ (l : List Int) (k : Nat) (m : List Bool), (∀ u ∈ l, 0 ≤ u ∧ u < (m.length : Int)) → gl_ap9_5 l k m = some (setAll m l)
 | [], k, m, h => rfl
 | u :: l, k, m, h => by
  have hu := h u (by simp)
  obtain ⟨b, hb⟩ := getI (xs := m) (i := u.toNat) (by omega)
  simp only [gl_ap9_5, idx_int hu.1, hb, Option.bind_some]
  exact i_past_5 l (k + 1) _ fun v hv => by
   rw [List.length_set]
   exact h v (by simp [hv])
theorem i_past_4 {r : Repo} {F : List Nat} (hc : Hist r.commits) : ∀ (k n : Nat) (m : List Bool), k < n → k ≤ r.commits.length → k ≤ 1048576 → Marks r.commits F k m → gl_ap9_4 r n ((k : Int) - 1) m = some (mark r.commits F)
 | _, 0, _, h, _, _, _ => by omega
 | 0, n + 1, m, _, _, _, h => by
  rw [h.fin]
  rfl
 | k + 1, n + 1, m, hn, hk, hb, h => by
  obtain ⟨x, hx⟩ := getI (xs := r.commits) (i := k) (by omega)
  obtain ⟨b, hb2⟩ := getI (xs := m) (i := k) (by rw [h.len]; omega)
  have e1 : (((k + 1 : Nat) : Int) - 1) = (k : Int) := by omega
  have hw : IntKind.i64.wrap ((k : Int) - 1) = (k : Int) - 1 := wrap_id (by omega) (by omega)
  have hge : decide ((k : Int) ≥ 0) = true := decide_eq_true (by omega)
  rw [e1]
  simp only [gl_ap9_4, hge, if_true, hw, idx_nat, hb2, Option.bind_some]
  cases b
  ·exact i_past_4 hc k n m (by omega) (by omega) (by omega) (h.skip (by rw [hb2]; simp))
  ·have h2 := hc.two x (List.mem_of_getElem? hx)
   simp only [hx, if_true, Option.bind_some]
   rw [if_pos (fits_small (by omega)), i_past_5 x.up 0 m (fun u hu => by
    have := hc.lt k x hx u hu
    rw [h.len]
    omega)]
   exact i_past_4 hc k n _ (by omega) (by omega) (by omega) (h.step hc hb2 hx)
theorem i_past {r : Repo} {k : Nat} (hc : Hist r.commits) (hl : r.commits.length ≤ 1048576) (hk : k < r.commits.length) : gf_ap9 r (k : Int) = some (mark r.commits [k]) := by
 have hr : rounds = 4194303 + 1 := rfl
 have h0 : (List.replicate r.commits.length false)[k]? = some false := by rw [List.getElem?_replicate, if_pos hk]
 have hm : Marks r.commits [k] (k + 1) ((List.replicate r.commits.length false).set k true) := by
  have := marks_init (cs := r.commits) (F := [k]) (by simpa using hk)
  exact marks_above hc (by simpa [setAll] using this) (by simp) (by omega)
 have e1 : (((k + 1 : Nat) : Int) - 1) = (k : Int) := by omega
 have := i_past_4 hc (k + 1) rounds _ (by rw [hr]; omega) (by omega) (by omega) hm
 rw [e1] at this
 unfold gf_ap9
 rw [if_pos (by simp [fits_small hl])]
 simp only [Int.toNat_natCast, idx_nat, h0, Option.bind_some, this]
theorem s_RepoBases_5 {r : Repo} {v : Nat} {x : Commit} (hx : r.commits[v]? = some x) (h2 : x.up.length ≤ 2) : ∀ (l : List Int) (j n : Nat) (m : List Bool), x.up.drop j = l → l.length < n → (∀ u ∈ l, 0 ≤ u ∧ u < (m.length : Int)) → gl_ew9_5 r (v : Int) n (j : Int) m = some (setAll m l)
 | _, _, 0, _, _, h, _ => by omega
 | [], j, n + 1, m, h, hn, hm => by
  simp only [gl_ew9_5, idx_nat, hx, Option.bind_some, drop_ge h]
  rfl
 | u :: l, j, n + 1, m, h, hn, hm => by
  have hue := drop_get h
  have hul := hm u (by simp)
  obtain ⟨b, hb⟩ := getI (xs := m) (i := u.toNat) (by omega)
  have hjl := drop_len h
  have hw : IntKind.i64.wrap ((j : Int) + 1) = ((j + 1 : Nat) : Int) := by rw [wrap_id (by omega) (by omega)]; omega
  simp only [gl_ew9_5, idx_nat, hx, Option.bind_some, drop_lt h, hue, idx_int hul.1, hb, if_true, hw]
  exact s_RepoBases_5 hx h2 l (j + 1) n _ (drop_next h) (by simp at hn; omega) (fun v hv => by rw [List.length_set]; exact hm v (by simp [hv]))
open Classical in
theorem s_RepoBases_4 {r : Repo} {a b : Nat} (hc : Hist r.commits) : ∀ (k n : Nat) (out : List Int) (d : List Bool), k < n → k ≤ r.commits.length → k ≤ 1048576 → out.length + k ≤ 1048576 → d.length = r.commits.length → (∀ j, j < k → (d[j]? = some true ↔ ∃ c x u, k ≤ c ∧ Com r.commits a b c ∧ r.commits[c]? = some x ∧ u ∈ x.up ∧ j = u.toNat)) → gl_ew9_4 (mark r.commits [a]) (mark r.commits [b]) r n ((k : Int) - 1) out d = some (out ++ downF (fun k => decide (Base r.commits a b k)) k)
 | _, 0, _, _, h, _, _, _, _, _ => by omega
 | 0, n + 1, out, d, _, _, _, _, _, _ => by
  simp only [downF, List.append_nil]
  rfl
 | k + 1, n + 1, out, d, hn, hk, hb, ho, hd, hi => by
  obtain ⟨x, hx⟩ := getI (xs := r.commits) (i := k) (by omega)
  obtain ⟨bd, hbd⟩ := getI (xs := d) (i := k) (by omega)
  have e1 : (((k + 1 : Nat) : Int) - 1) = (k : Int) := by omega
  have hw : IntKind.i64.wrap ((k : Int) - 1) = (k : Int) - 1 := wrap_id (by omega) (by omega)
  have hge : decide ((k : Int) ≥ 0) = true := decide_eq_true (by omega)
  have h2 := hc.two x (List.mem_of_getElem? hx)
  have hr : rounds = 4194303 + 1 := rfl
  have skip : ¬ Com r.commits a b k → gl_ew9_4 (mark r.commits [a]) (mark r.commits [b]) r n ((k : Int) - 1) out d = some (out ++ downF (fun k => decide (Base r.commits a b k)) (k + 1)) := fun hnc => by
   have hnb : ¬ Base r.commits a b k := fun h => hnc h.1
   rw [s_RepoBases_4 hc k n out d (by omega) (by omega) (by omega) (by omega) hd fun j hj => ?_]
   ·simp [downF, hnb]
   ·rw [hi j (by omega)]
    constructor
    ·rintro ⟨c, y, u, h1, h3⟩
     exact ⟨c, y, u, by omega, h3⟩
    ·rintro ⟨c, y, u, h1, h3⟩
     rcases Nat.eq_or_lt_of_le h1 with rfl | h1
     ·exact absurd h3.1 hnc
     ·exact ⟨c, y, u, h1, h3⟩
  rw [e1]
  simp only [gl_ew9_4, hge, if_true, hw, idx_nat, mark1_get (show k < r.commits.length by omega), hbd, Option.bind_some]
  by_cases h1 : Anc r.commits a k
  ·by_cases h3 : Anc r.commits b k
   ·have hcom : Com r.commits a b k := ⟨h1, h3⟩
    have hdb : bd = true ↔ ¬ Base r.commits a b k := by
     rw [← not_base' hc hcom]
     have := hi k (by omega)
     rw [hbd] at this
     simp only [Option.some.injEq] at this
     rw [this]
     constructor
     ·rintro ⟨c, y, u, _, h⟩
      exact ⟨c, y, u, h⟩
     ·rintro ⟨c, y, u, h4, h5, h6, h7⟩
      have := hc.lt _ _ h5 _ h6
      exact ⟨c, y, u, by omega, h4, h5, h6, h7⟩
    have hstep : gl_ew9_5 r (k : Int) rounds 0 d = some (setAll d x.up) := by
     have := s_RepoBases_5 hx h2 x.up 0 rounds d rfl (by rw [hr]; omega) (fun u hu => by have := hc.lt k x hx u hu; omega)
     simpa using this
    have ih : ∀ out', out'.length + k ≤ 1048576 → gl_ew9_4 (mark r.commits [a]) (mark r.commits [b]) r n ((k : Int) - 1) out' (setAll d x.up) = some (out' ++ downF (fun k => decide (Base r.commits a b k)) k) := fun out' ho' => by
     refine s_RepoBases_4 hc k n out' _ (by omega) (by omega) (by omega) ho' (by rw [setAll_len, hd]) fun j hj => ?_
     rw [setAll_get, hi j (by omega)]
     constructor
     ·rintro (⟨c, y, u, h4, h5⟩ | ⟨_, u, h4, rfl⟩)
      ·exact ⟨c, y, u, by omega, h5⟩
      ·exact ⟨k, x, u, Nat.le_refl _, hcom, hx, h4, rfl⟩
     ·rintro ⟨c, y, u, h4, h5, h6, h7, h8⟩
      rcases Nat.eq_or_lt_of_le h4 with rfl | h4
      ·rw [hx] at h6
       cases h6
       exact .inr ⟨by omega, u, h7, h8.symm⟩
      ·exact .inl ⟨c, y, u, h4, h5, h6, h7, h8⟩
    simp only [h1, h3, decide_true, Bool.not_true, hstep, Option.bind_some]
    cases bd
    ·have hbase : Base r.commits a b k := Classical.byContradiction fun h => by simpa using hdb.2 h
     simp only [Bool.not_false, if_true]
     rw [if_neg (by decide), if_neg (by decide), if_pos (fits_small (by simp; omega))]
     simp only [Option.bind_some]
     rw [ih _ (by simp; omega)]
     simp [downF, hbase]
    ·have hbase : ¬ Base r.commits a b k := hdb.1 rfl
     simp only [Bool.not_true]
     rw [if_neg (by decide), if_neg (by decide), if_neg (by decide)]
     simp only [Option.bind_some]
     rw [ih _ (by omega)]
     simp [downF, hbase]
   ·simp only [h1, h3, decide_true, decide_false, Bool.not_true, Bool.not_false]
    rw [if_neg (by decide), if_pos trivial]
    exact skip fun h => h3 h.2
  ·simp only [h1, decide_false, Bool.not_false, if_true]
   exact skip fun h => h1 h.1
def inR (r : Repo) (k : Int) : Bool := mRepo r && (decide (0 ≤ k) && decide (k < (r.commits.length : Int)))
theorem inR_at {r : Repo} {k : Int} (h : inR r k = true) : mRepo r = true ∧ ∃ n : Nat, k = (n : Int) ∧ n < r.commits.length := by
 unfold inR at h
 simp only [Bool.and_eq_true, decide_eq_true_eq] at h
 exact ⟨h.1, k.toNat, by omega, by omega⟩
theorem s_RepoBases {r : Repo} {a b : Int} (hw : wRepo r ≤ 1048576) : gf_ew9 r a b = some (if (inR r a && inR r b) = true then mBases r.commits a.toNat b.toNat else []) := by
 unfold gf_ew9
 rw [s_l7In hw, s_l7In hw]
 by_cases h1 : inR r a = true
 ·by_cases h2 : inR r b = true
  ·obtain ⟨hr, i, rfl, hi⟩ := inR_at h1
   obtain ⟨_, j, rfl, hj⟩ := inR_at h2
   have hc := repo_hist hr
   have hl := (repo_len hr).1.2
   have hrd : rounds = 4194303 + 1 := rfl
   rw [h1, h2]
   simp only [inR] at h1 h2
   rw [h1, h2, s_l7Marks1 hc (by omega) hi, s_l7Marks1 hc (by omega) hj]
   simp only [Option.bind_some, Bool.not_true, if_true]
   rw [if_neg (by decide), if_neg (by decide), if_pos (by simp [fits_small (n := r.commits.length) (by omega)]), wrap_id (by omega) (by omega), Int.toNat_natCast, s_RepoBases_4 hc r.commits.length rounds [] _ (by rw [hrd]; omega) (Nat.le_refl _) (by omega) (by simp; omega) (by simp) (fun k hk => ?_)]
   ·rfl
   ·constructor
    ·exact fun h => absurd h rep_get
    ·rintro ⟨c, x, u, h3, h4, h5, _⟩
     have := get_lt h5
     omega
  ·have h2' := h2
   simp only [inR] at h1 h2'
   rw [h1]
   simp only [Bool.not_eq_true] at h2'
   rw [h2']
   simp [h2]
 ·have h1' := h1
  simp only [inR, Bool.not_eq_true] at h1'
  rw [h1']
  simp [h1]
open Classical in
theorem i_Contains {r : Repo} (hc : Hist r.commits) (hl : r.commits.length ≤ 1048576) {k : Nat} (hk : k < r.commits.length) {out : List Int} (ho : ∀ u ∈ out, ∃ j : Nat, u = (j : Int) ∧ j < r.commits.length) (hlen : out.length ≤ 1048576) : gf_dy9 out r (k : Int) = some (decide (∃ j : Nat, (j : Int) ∈ out ∧ Anc r.commits j k)) := by
 have key0 : gf_ep9 out r (k : Int) = some (fstFrom (fun u => decide (Anc r.commits u.toNat k)) out 0) := by
  unfold gf_ep9
  rw [if_pos (fits_small hlen)]
  exact loopF (gl := gl_ep9_1 r (k : Int)) (p := fun u => decide (Anc r.commits u.toNat k)) (ok := fun u => ∃ j : Nat, u = (j : Int) ∧ j < r.commits.length) (fun _ => rfl) (fun u l i hu => by
   obtain ⟨j, rfl, hj⟩ := hu
   simp only [gl_ep9_1, gf_aj9, i_past hc hl hj, Option.bind_some, idx_nat, mark1_get hk, Int.toNat_natCast]) out 0 ho
 unfold gf_dy9
 rw [key0]
 ·simp only [Option.bind_some, Option.some.injEq]
  have key : ∀ (l : List Int) (i : Nat), (∀ u ∈ l, ∃ j : Nat, u = (j : Int) ∧ j < r.commits.length) → (fstFrom (fun u => decide (Anc r.commits u.toNat k)) l i ≥ 0 ↔ ∃ j : Nat, (j : Int) ∈ l ∧ Anc r.commits j k) := fun l => by
   induction l with
   | nil => intro i _; simp [fstFrom]
   | cons u l ih =>
    intro i hl
    obtain ⟨j, rfl, hj⟩ := hl u (by simp)
    simp only [fstFrom, Int.toNat_natCast]
    by_cases hp : Anc r.commits j k
    ·rw [if_pos (by simpa using hp)]
     exact ⟨fun _ => ⟨j, by simp, hp⟩, fun _ => by omega⟩
    ·rw [if_neg (by simpa using hp), ih (i + 1) fun u hu => hl u (by simp [hu])]
     constructor
     ·rintro ⟨j', h1, h2⟩
      exact ⟨j', by simp [h1], h2⟩
     ·rintro ⟨j', h1, h2⟩
      rcases List.mem_cons.1 h1 with h1 | h1
      ·have : j' = j := by omega
       subst this
       exact absurd h2 hp
      ·exact ⟨j', h1, h2⟩
  exact decide_eq_decide.2 (key out 0 ho)
open Classical in
theorem i_RepoBases_1 {r : Repo} {a b : Nat} (hc : Hist r.commits) (hl : r.commits.length ≤ 1048576) : ∀ (k n : Nat) (out : List Int), k < n → k ≤ r.commits.length → out.length + k ≤ 1048576 → (∀ u, u ∈ out ↔ ∃ j : Nat, u = (j : Int) ∧ k ≤ j ∧ Base r.commits a b j ∧ j < r.commits.length) → gl_aj9 (mark r.commits [a]) (mark r.commits [b]) r n out ((k : Int) - 1) = some (out ++ downF (fun k => decide (Base r.commits a b k)) k)
 | _, 0, _, h, _, _, _ => by omega
 | 0, n + 1, out, _, _, _, _ => by
  simp only [downF, List.append_nil]
  rfl
 | k + 1, n + 1, out, hn, hk, ho, hi => by
  have e1 : (((k + 1 : Nat) : Int) - 1) = (k : Int) := by omega
  have hw : IntKind.i64.wrap ((k : Int) - 1) = (k : Int) - 1 := wrap_id (by omega) (by omega)
  have hge : decide ((k : Int) ≥ 0) = true := decide_eq_true (by omega)
  have skip : ¬ Base r.commits a b k → gl_aj9 (mark r.commits [a]) (mark r.commits [b]) r n out ((k : Int) - 1) = some (out ++ downF (fun k => decide (Base r.commits a b k)) (k + 1)) := fun hnb => by
   rw [i_RepoBases_1 hc hl k n out (by omega) (by omega) (by omega) fun u => ?_]
   ·simp [downF, hnb]
   ·rw [hi u]
    constructor
    ·rintro ⟨j, h1, h2, h3⟩
     exact ⟨j, h1, by omega, h3⟩
    ·rintro ⟨j, h1, h2, h3⟩
     rcases Nat.eq_or_lt_of_le h2 with rfl | h2
     ·exact absurd h3.1 hnb
     ·exact ⟨j, h1, h2, h3⟩
  have take : Base r.commits a b k → gl_aj9 (mark r.commits [a]) (mark r.commits [b]) r n (out ++ [(k : Int)]) ((k : Int) - 1) = some (out ++ downF (fun k => decide (Base r.commits a b k)) (k + 1)) := fun hb => by
   rw [i_RepoBases_1 hc hl k n _ (by omega) (by omega) (by simp; omega) fun u => ?_]
   ·simp [downF, hb]
   ·rw [List.mem_append, hi u, List.mem_singleton]
    constructor
    ·rintro (⟨j, h1, h2, h3⟩ | rfl)
     ·exact ⟨j, h1, by omega, h3⟩
     ·exact ⟨k, rfl, Nat.le_refl _, hb, by omega⟩
    ·rintro ⟨j, h1, h2, h3⟩
     rcases Nat.eq_or_lt_of_le h2 with rfl | h2
     ·exact .inr h1
     ·exact .inl ⟨j, h1, h2, h3⟩
  rw [e1]
  simp only [gl_aj9, hge, if_true, hw, idx_nat, mark1_get (show k < r.commits.length by omega), Option.bind_some]
  by_cases h1 : Anc r.commits a k
  ·by_cases h3 : Anc r.commits b k
   ·have hcom : Com r.commits a b k := ⟨h1, h3⟩
    rw [i_Contains hc hl (by omega) (fun u hu => by
     obtain ⟨j, h4, _, _, h5⟩ := (hi u).1 hu
     exact ⟨j, h4, h5⟩) (by omega)]
    have hct : (∃ j : Nat, (j : Int) ∈ out ∧ Anc r.commits j k) ↔ ¬ Base r.commits a b k := by
     rw [← not_base hc hcom]
     constructor
     ·rintro ⟨j, h4, h5⟩
      obtain ⟨j', h6, h7, h8, h9⟩ := (hi _).1 h4
      have : j = j' := by omega
      subst this
      exact ⟨j, by omega, h8, h5⟩
     ·rintro ⟨j, h4, h5, h6⟩
      refine ⟨j, (hi _).2 ⟨j, rfl, by omega, h5, ?_⟩, h6⟩
      rcases h6.last with rfl | ⟨c, x, u, h7, h8, _⟩
      ·omega
      ·rcases Nat.lt_or_ge j r.commits.length with h | h
       ·exact h
       ·exfalso
        have : ∀ p q, Anc r.commits p q → r.commits.length ≤ p → q = p := fun p q hpq hp => by
         induction hpq with
         | refl => rfl
         | up ha hx hu ih =>
          have := get_lt hx
          omega
        have := this j k h6 h
        omega
    simp only [h1, h3, decide_true, Bool.not_true, Option.bind_some]
    rw [if_neg (by decide), if_neg (by decide)]
    by_cases hb : Base r.commits a b k
    ·have hf : decide (∃ j : Nat, (j : Int) ∈ out ∧ Anc r.commits j k) = false := decide_eq_false fun h => hct.1 h hb
     rw [hf]
     simp only [Bool.not_false, if_true]
     rw [if_pos (fits_small (by simp; omega))]
     exact take hb
    ·have hf : decide (∃ j : Nat, (j : Int) ∈ out ∧ Anc r.commits j k) = true := decide_eq_true (hct.2 hb)
     rw [hf]
     simp only [Bool.not_true]
     rw [if_neg (by decide)]
     exact skip hb
   ·simp only [h1, h3, decide_true, decide_false, Bool.not_true, Bool.not_false]
    rw [if_neg (by decide), if_pos trivial]
    exact skip fun h => h3 h.1.2
  ·simp only [h1, decide_false, Bool.not_false, if_true]
   exact skip fun h => h1 h.1.1
theorem i_RepoBases {r : Repo} {a b : Int} (hw : wRepo r ≤ 1048576) : gf_ai9 r a b = some (if (inR r a && inR r b) = true then mBases r.commits a.toNat b.toNat else []) := by
 have hla : r.commits.length ≤ 1048576 := by unfold wRepo wL at hw; omega
 unfold gf_ai9
 rw [i_RepoOk hw, i_version hla, i_version hla]
 by_cases h1 : inR r a = true
 ·by_cases h2 : inR r b = true
  ·obtain ⟨hr, i, rfl, hi⟩ := inR_at h1
   obtain ⟨_, j, rfl, hj⟩ := inR_at h2
   have hc := repo_hist hr
   have hl := (repo_len hr).1.2
   have hrd : rounds = 4194303 + 1 := rfl
   rw [h1, h2, hr]
   simp only [Option.bind_some, Bool.not_true, i_past hc hla hi, i_past hc hla hj, mark_len]
   have e1 : (decide ((0 : Int) ≤ (i : Int)) && decide ((i : Int) < (r.commits.length : Int))) = true := by simp; omega
   have e2 : (decide ((0 : Int) ≤ (j : Int)) && decide ((j : Int) < (r.commits.length : Int))) = true := by simp; omega
   rw [e1, e2]
   simp only [Bool.not_true, Bool.and_true, if_true]
   rw [if_neg (by decide), if_neg (by decide), if_neg (by decide), wrap_id (by omega) (by omega), i_RepoBases_1 hc hla r.commits.length rounds [] (by rw [hrd]; omega) (Nat.le_refl _) (by simp; omega) (fun u => ?_)]
   ·rfl
   ·constructor
    ·intro h; cases h
    ·rintro ⟨j, _, h3, _, h4⟩
     omega
  ·rw [h1]
   unfold inR at h1 h2
   simp only [Bool.and_eq_true] at h1
   simp only [h1.1, h1.2, Bool.true_and, Bool.not_eq_true] at h2
   simp only [h1.1, h2, inR]
   simp only [h1.2]
   simp
 ·unfold inR at h1
  by_cases hr : mRepo r = true
  ·simp only [hr, Bool.true_and, Bool.not_eq_true] at h1
   simp [hr, h1, inR]
  ·simp [hr, inR]
noncomputable def mJoinBase (r : Repo) (a b : Int) : Int := ((if (inR r a && inR r b) = true then mBases r.commits a.toNat b.toNat else []).head?).getD (-1)
theorem s_JoinBase {r : Repo} {a b : Int} (hw : wRepo r ≤ 1048576) : gf_eu9 r a b = some (mJoinBase r a b) := by
 unfold gf_eu9 mJoinBase
 rw [s_RepoBases hw]
 simp only [Option.bind_some]
 generalize (if (inR r a && inR r b) = true then mBases r.commits a.toNat b.toNat else []) = l
 cases l with
 | nil => rfl
 | cons x l =>
  rw [if_neg (by simp; omega)]
  rfl
theorem i_JoinBase {r : Repo} {a b : Int} (hw : wRepo r ≤ 1048576) : gf_ag9 r a b = some (mJoinBase r a b) := by
 unfold gf_ag9 mJoinBase
 rw [i_RepoBases hw]
 simp only [Option.bind_some]
 generalize (if (inR r a && inR r b) = true then mBases r.commits a.toNat b.toNat else []) = l
 cases l with
 | nil => rfl
 | cons x l =>
  rw [if_neg (by simp; omega)]
  rfl
def kM : Int := 4398046511104
theorem bstr1 (n : Int) : (bstr [n]).size = 1 := rfl
theorem cat_some {a b : Str} (h : a.size + b.size ≤ 1000) : ∃ t, cat a b = some t ∧ t.size = a.size + b.size := ⟨a ++ b, by unfold cat; rw [if_pos (by omega)], by simp⟩
theorem markText_loop : ∀ (m n w : Nat) (s : Str), w < 10 ^ m → m ≤ 18 → m < n → s.size + m ≤ 100 → ∃ t, gl_cv9_1 n (w : Int) s = some t ∧ t.size ≤ s.size + m
 | m, 0, w, s, _, _, h, _ => by omega
 | 0, n + 1, w, s, h1, _, _, _ => by
  have : w = 0 := by simpa using h1
  subst this
  exact ⟨s, rfl, by omega⟩
 | m + 1, n + 1, w, s, h1, h2, h3, h4 => by
  simp only [gl_cv9_1]
  by_cases hv : 0 < w
  ·rw [if_pos (by simpa using hv)]
   have hd : Int.tdiv (w : Int) 10 = ((w / 10 : Nat) : Int) := by
    rw [Int.tdiv_eq_ediv_of_nonneg (by omega)]
    rfl
   have hlt : w / 10 < 10 ^ m := by
    rw [Nat.pow_succ] at h1
    exact Nat.div_lt_of_lt_mul (by rw [Nat.mul_comm]; exact h1)
   have h5 : (10 : Nat) ^ m ≤ 10 ^ 18 := Nat.pow_le_pow_right (by decide) (by omega)
   have h6 : (10 : Nat) ^ 18 = 1000000000000000000 := by decide
   obtain ⟨t, ht, hs⟩ := cat_some (a := bstr [(IntKind.u8.wrap (IntKind.i64.wrap (48 + (Int.tmod (w : Int) 10))))]) (b := s) (by rw [bstr1]; omega)
   rw [bstr1] at hs
   rw [ht, hd, wrap_id (by omega) (by omega)]
   simp only [Option.bind_some]
   obtain ⟨t2, h7, h8⟩ := markText_loop m n (w / 10) t hlt (by omega) (by omega) (by omega)
   exact ⟨t2, h7, by omega⟩
  ·rw [if_neg (by simpa using hv)]
   exact ⟨s, rfl, by omega⟩
theorem markText_ok {k : Int} (h : k ≤ kM) : ∃ t, gf_cv9 k = some t := by
 unfold gf_cv9
 by_cases h0 : k ≤ 0
 ·exact ⟨_, by rw [if_pos (by simpa using h0)]⟩
 ·rw [if_neg (by simpa using h0)]
  have e : k = ((k.toNat : Nat) : Int) := by omega
  have hz : (⟨#[]⟩ : Str).size = 0 := rfl
  have hm : (⟨#[109]⟩ : Str).size = 1 := rfl
  have hr : rounds = 4194303 + 1 := rfl
  obtain ⟨t, h1, h2⟩ := markText_loop 18 rounds k.toNat (⟨#[]⟩ : Str) (by
   have : (10 : Nat) ^ 18 = 1000000000000000000 := by decide
   unfold kM at h
   omega) (by omega) (by rw [hr]; omega) (by rw [hz]; omega)
  rw [← e] at h1
  obtain ⟨t2, h3, _⟩ := cat_some (a := (⟨#[109]⟩ : Str)) (b := t) (by rw [hm]; omega)
  exact ⟨t2, by rw [h1]; simp only [Option.bind_some, h3]⟩
theorem mk_loop {α : Type} {gl : Nat → Int → Int → List α → Option (Int × List α)} {hl : List α → Nat → Int → Int → Prop} {c w : α → Nat} (h0 : ∀ n k xs, gl (n + 1) k (xs.length : Int) xs = some (k, xs)) (hE : ∀ x k, w x ≤ 3145728 → 0 < k → k + c x ≤ kM → ∃ y, (∀ n (i : Nat) xs, xs[i]? = some x → i < 3145728 → gl (n + 1) k (i : Int) xs = gl n (k + c x) ((i + 1 : Nat) : Int) (xs.set i y)) ∧ ∀ l j K, hl l (j + 1) (k + c x) K → hl (y :: l) j k K) (hn : ∀ j k, hl [] j k k) :
  ∀ (rest pre : List α) (n : Nat) (k : Int), (∀ x ∈ rest, w x ≤ 3145728) → rest.length < n → pre.length + rest.length ≤ 3145728 → 0 < k → k + sumW c rest ≤ kM → ∃ rest', rest'.length = rest.length ∧ gl n k (pre.length : Int) (pre ++ rest) = some (k + sumW c rest, pre ++ rest') ∧ ∀ j, hl rest' j k (k + sumW c rest)
 | _, _, 0, _, _, h, _, _, _ => by omega
 | [], pre, n + 1, k, _, _, _, _, _ => ⟨[], rfl, by simpa [sumW] using h0 n k pre, fun j => by simpa [sumW] using hn j k⟩
 | x :: rest, pre, n + 1, k, hw, hl1, hlen, hk, hb => by
  have hs : sumW c (x :: rest) = c x + sumW c rest := rfl
  rw [hs] at hb ⊢
  obtain ⟨y, h1, h2⟩ := hE x k (hw x (by simp)) hk (by omega)
  simp only [List.length_cons] at hl1 hlen
  obtain ⟨r, h3, h4, h5⟩ := mk_loop h0 hE hn rest (pre ++ [y]) n (k + c x) (fun z hz => hw z (by simp [hz])) (by omega) (by simp; omega) (by omega) (by omega)
  have e0 : k + (((c x + sumW c rest : Nat)) : Int) = k + c x + sumW c rest := by omega
  refine ⟨y :: r, by simp [h3], ?_, fun j => by rw [e0]; exact h2 r j _ (h5 (j + 1))⟩
  rw [h1 n pre.length (pre ++ x :: rest) (by simp) (by omega)]
  have e1 : (pre ++ x :: rest).set pre.length y = pre ++ [y] ++ rest := by simp
  have e2 : ((pre.length + 1 : Nat) : Int) = ((pre ++ [y]).length : Int) := by simp
  rw [e1, e2, h4]
  simp only [List.append_assoc, List.singleton_append, Option.some.injEq, Prod.mk.injEq, and_true]
  omega
def c1 {α : Type} (_ : α) : Nat := 1
def c2 {α : Type} (_ : α) : Nat := 2
def noh {α : Type} (_ : List α) (_ : Nat) (_ _ : Int) : Prop := True
theorem mk_list {α : Type} {gf : List α → Int → Option (Int × List α)} {gl : Nat → Int → Int → List α → Option (Int × List α)} {hl : List α → Nat → Int → Int → Prop} {c w : α → Nat} (hg : ∀ a k, gf a k = (gl rounds k 0 a).bind fun q => some (q.1, q.2)) (h0 : ∀ n k xs, gl (n + 1) k (xs.length : Int) xs = some (k, xs)) (hE : ∀ x k, w x ≤ 3145728 → 0 < k → k + c x ≤ kM → ∃ y, (∀ n (i : Nat) xs, xs[i]? = some x → i < 3145728 → gl (n + 1) k (i : Int) xs = gl n (k + c x) ((i + 1 : Nat) : Int) (xs.set i y)) ∧ ∀ l j K, hl l (j + 1) (k + c x) K → hl (y :: l) j k K) (hn : ∀ j k, hl [] j k k) : ∀ x k, wL w x ≤ 3145728 → 0 < k → k + sumW c x ≤ kM → ∃ y, gf x k = some (k + sumW c x, y) ∧ y.length = x.length ∧ hl y 0 k (k + sumW c x) := fun x k hw hk hb => by
 have hr : rounds = 4194303 + 1 := rfl
 have hlen : x.length ≤ 3145728 := by unfold wL at hw; omega
 obtain ⟨r, h1, h2, h3⟩ := mk_loop h0 hE hn x [] rounds k (fun y hy => by have := sum_mem (w := w) hy; unfold wL at hw; omega) (by rw [hr]; omega) (by simpa using hlen) hk hb
 refine ⟨r, ?_, h1, h3 0⟩
 rw [hg]
 simp only [List.nil_append, List.length_nil] at h2
 have h2' : gl rounds k 0 x = some (k + sumW c x, r) := h2
 rw [h2']
 rfl
theorem mw {k : Int} (h : 0 < k) (h2 : k ≤ kM) : IntKind.i64.wrap (k + 1) = k + 1 := by unfold kM at h2; exact wrap_id (by omega) (by omega)
theorem miw {i : Nat} (h : i < 3145728) : IntKind.i64.wrap ((i : Int) + 1) = ((i + 1 : Nat) : Int) := by rw [wrap_id (by omega) (by omega)]; omega
theorem lt_dec {α : Type} {xs : List α} {i : Nat} {x : α} (h : xs[i]? = some x) : decide ((i : Int) < (xs.length : Int)) = true := decide_eq_true (by have := get_lt h; omega)
theorem set_get {α : Type} {xs : List α} {i : Nat} {x y : α} (h : xs[i]? = some x) : (xs.set i y)[i]? = some y := List.getElem?_set_self (get_lt h)
theorem ge_dec {n : Nat} : decide ((n : Int) < (n : Int)) = false := decide_eq_false (by omega)
def cFeat (f : Feat) : Nat := 2 + (sumW c2 f.shape.pts + sumW c2 f.tags)
def cCommit (c : Commit) : Nat := sumW c1 c.up + (sumW cFeat c.sheet + 1)
def cRepo (r : Repo) : Nat := sumW cCommit r.commits + sumW c2 r.heads
theorem mkn_IntS {x : List Int} {k : Int} (hw : wL w0 x ≤ 3145728) (hk : 0 < k) (hb : k + sumW c1 x ≤ kM) : ∃ y, gf_cr9 x k = some (k + sumW c1 x, y) := by
 obtain ⟨y, h, _⟩ := mk_list (gf := gf_cr9) (hl := noh) (c := c1) (w := w0) (fun _ _ => rfl) (fun n k xs => by simp only [gl_cr9_1, ge_dec]; rfl) (fun x k _ hk hb => ⟨k, fun n i xs hx hi => by
  unfold c1 at hb ⊢
  simp only [gl_cr9_1, lt_dec hx, if_true, idx_nat, hx, Option.bind_some, mw hk (by omega), miw hi, Int.toNat_natCast, Int.natCast_one], fun _ _ _ _ => trivial⟩) (fun _ _ => trivial) x k hw hk hb
 exact ⟨y, h⟩
theorem two_k {k : Int} : k + ((2 : Nat) : Int) = k + 1 + 1 := by omega
theorem mkn_PtS {x : List Pt} {k : Int} (hw : wL w0 x ≤ 3145728) (hk : 0 < k) (hb : k + sumW c2 x ≤ kM) : ∃ y, gf_cs9 x k = some (k + sumW c2 x, y) := by
 obtain ⟨y, h, _⟩ := mk_list (gf := gf_cs9) (hl := noh) (c := c2) (w := w0) (fun _ _ => rfl) (fun n k xs => by simp only [gl_cs9_1, ge_dec]; rfl) (fun x k _ hk hb => by
  unfold c2 at hb ⊢
  refine ⟨⟨k, k + 1⟩, fun n i xs hx hi => ?_, fun _ _ _ _ => trivial⟩
  simp only [gl_cs9_1, lt_dec hx, if_true, idx_nat, hx, Option.bind_some, mw hk (by omega), mw (show 0 < k + 1 by omega) (by omega), miw hi, Int.toNat_natCast, set_get hx, List.set_set, two_k]) (fun _ _ => trivial) x k hw hk hb
 exact ⟨y, h⟩
theorem mkn_TagS {x : List Tag} {k : Int} (hw : wL wTag x ≤ 3145728) (hk : 0 < k) (hb : k + sumW c2 x ≤ kM) : ∃ y, gf_cu9 x k = some (k + sumW c2 x, y) := by
 obtain ⟨y, h, _⟩ := mk_list (gf := gf_cu9) (hl := noh) (c := c2) (w := wTag) (fun _ _ => rfl) (fun n k xs => by simp only [gl_cu9_1, ge_dec]; rfl) (fun x k _ hk hb => by
  unfold c2 at hb ⊢
  obtain ⟨t1, h1⟩ := markText_ok (k := k) (by omega)
  obtain ⟨t2, h2⟩ := markText_ok (k := k + 1) (by omega)
  refine ⟨⟨t1, t2⟩, fun n i xs hx hi => ?_, fun _ _ _ _ => trivial⟩
  simp only [gl_cu9_1, lt_dec hx, if_true, idx_nat, hx, h1, h2, Option.bind_some, mw hk (by omega), mw (show 0 < k + 1 by omega) (by omega), miw hi, Int.toNat_natCast, set_get hx, List.set_set, two_k]) (fun _ _ => trivial) x k hw hk hb
 exact ⟨y, h⟩
theorem mkn_HeadS {x : List Head} {k : Int} (hw : wL wHead x ≤ 3145728) (hk : 0 < k) (hb : k + sumW c2 x ≤ kM) : ∃ y, gf_cq9 x k = some (k + sumW c2 x, y) := by
 obtain ⟨y, h, _⟩ := mk_list (gf := gf_cq9) (hl := noh) (c := c2) (w := wHead) (fun _ _ => rfl) (fun n k xs => by simp only [gl_cq9_1, ge_dec]; rfl) (fun x k _ hk hb => by
  unfold c2 at hb ⊢
  obtain ⟨t1, h1⟩ := markText_ok (k := k) (by omega)
  refine ⟨⟨t1, k + 1⟩, fun n i xs hx hi => ?_, fun _ _ _ _ => trivial⟩
  simp only [gl_cq9_1, lt_dec hx, if_true, idx_nat, hx, h1, Option.bind_some, mw hk (by omega), mw (show 0 < k + 1 by omega) (by omega), miw hi, Int.toNat_natCast, set_get hx, List.set_set, two_k]) (fun _ _ => trivial) x k hw hk hb
 exact ⟨y, h⟩
theorem mkn_FeatS {x : List Feat} {k : Int} (hw : wL wFeat x ≤ 3145728) (hk : 0 < k) (hb : k + sumW cFeat x ≤ kM) : ∃ y, gf_cp9 x k = some (k + sumW cFeat x, y) := by
 obtain ⟨y, h, _⟩ := mk_list (gf := gf_cp9) (hl := noh) (c := cFeat) (w := wFeat) (fun _ _ => rfl) (fun n k xs => by simp only [gl_cp9_1, ge_dec]; rfl) (fun x k hwx hk hb => by
  unfold cFeat at hb ⊢
  unfold wFeat wShape at hwx
  obtain ⟨t1, h1⟩ := markText_ok (k := k) (by omega)
  obtain ⟨p, h2⟩ := mkn_PtS (x := x.shape.pts) (k := k + 1 + 1) (by omega) (by omega) (by omega)
  obtain ⟨q, h3⟩ := mkn_TagS (x := x.tags) (k := k + 1 + 1 + sumW c2 x.shape.pts) (by omega) (by omega) (by omega)
  refine ⟨⟨t1, ⟨k + 1, p⟩, q⟩, fun n i xs hx hi => ?_, fun _ _ _ _ => trivial⟩
  simp only [gl_cp9_1, lt_dec hx, if_true, idx_nat, hx, h1, h2, h3, Option.bind_some, mw hk (by omega), mw (show 0 < k + 1 by omega) (by omega), miw hi, Int.toNat_natCast, set_get hx, List.set_set]
  congr 1
  omega) (fun _ _ => trivial) x k hw hk hb
 exact ⟨y, h⟩
theorem mkn_CommitS {x : List Commit} {k : Int} (hw : wL wCommit x ≤ 3145728) (hk : 0 < k) (hb : k + sumW cCommit x ≤ kM) : ∃ y, gf_co9 x k = some (k + sumW cCommit x, y) := by
 obtain ⟨y, h, _⟩ := mk_list (gf := gf_co9) (hl := noh) (c := cCommit) (w := wCommit) (fun _ _ => rfl) (fun n k xs => by simp only [gl_co9_1, ge_dec]; rfl) (fun x k hwx hk hb => by
  unfold cCommit at hb ⊢
  unfold wCommit at hwx
  obtain ⟨p, h2⟩ := mkn_IntS (x := x.up) (k := k) (by omega) (by omega) (by omega)
  obtain ⟨q, h3⟩ := mkn_FeatS (x := x.sheet) (k := k + sumW c1 x.up) (by omega) (by omega) (by omega)
  obtain ⟨t1, h1⟩ := markText_ok (k := k + sumW c1 x.up + sumW cFeat x.sheet) (by omega)
  refine ⟨⟨p, q, t1⟩, fun n i xs hx hi => ?_, fun _ _ _ _ => trivial⟩
  simp only [gl_co9_1, lt_dec hx, if_true, idx_nat, hx, h1, h2, h3, Option.bind_some, mw (show 0 < k + sumW c1 x.up + sumW cFeat x.sheet by omega) (by omega), miw hi, Int.toNat_natCast, set_get hx, List.set_set]
  congr 1
  omega) (fun _ _ => trivial) x k hw hk hb
 exact ⟨y, h⟩
theorem mkn_Repo {x : Repo} {k : Int} (hw : wRepo x ≤ 3145728) (hk : 0 < k) (hb : k + cRepo x ≤ kM) : ∃ y, gf_ct9 x k = some (k + cRepo x, y) := by
 unfold cRepo at hb ⊢
 unfold wRepo at hw
 obtain ⟨p, h2⟩ := mkn_CommitS (x := x.commits) (k := k) (by omega) (by omega) (by omega)
 obtain ⟨q, h3⟩ := mkn_HeadS (x := x.heads) (k := k + sumW cCommit x.commits) (by omega) (by omega) (by omega)
 refine ⟨⟨p, q⟩, ?_⟩
 unfold gf_ct9
 simp only [h2, h3, Option.bind_some, Option.some.injEq, Prod.mk.injEq, and_true]
 omega
theorem sum_le {α : Type} {c w : α → Nat} {a : Nat} (h : ∀ x, c x ≤ a + a * w x) : ∀ xs : List α, sumW c xs ≤ a * wL w xs
 | [] => by simp [sumW]
 | x :: xs => by
  have ih := sum_le h xs
  have := h x
  unfold wL at ih ⊢
  simp only [sumW, List.length_cons]
  have e : a * (xs.length + 1 + (w x + sumW w xs)) = a + a * w x + a * (xs.length + sumW w xs) := by
   rw [show xs.length + 1 + (w x + sumW w xs) = 1 + w x + (xs.length + sumW w xs) by omega, Nat.mul_add, Nat.mul_add, Nat.mul_one]
  omega
theorem cFeat_le (f : Feat) : cFeat f ≤ 2 + 2 * wFeat f := by
 have h1 := sum_le (c := c2) (w := w0) (a := 2) (fun x => by unfold c2; omega) f.shape.pts
 have h2 := sum_le (c := c2) (w := wTag) (a := 2) (fun x => by unfold c2; omega) f.tags
 unfold cFeat wFeat wShape
 omega
theorem cCommit_le (c : Commit) : cCommit c ≤ 2 + 2 * wCommit c := by
 have h1 := sum_le (c := c1) (w := w0) (a := 2) (fun x => by unfold c1; omega) c.up
 have h2 := sum_le (c := cFeat) (w := wFeat) (a := 2) (fun x => by have := cFeat_le x; omega) c.sheet
 unfold cCommit wCommit
 omega
theorem cRepo_le (r : Repo) : cRepo r ≤ 2 * wRepo r := by
 have h1 := sum_le (c := cCommit) (w := wCommit) (a := 2) (fun x => by have := cCommit_le x; omega) r.commits
 have h2 := sum_le (c := c2) (w := wHead) (a := 2) (fun x => by unfold c2; omega) r.heads
 unfold cRepo wRepo
 omega
theorem ne_dec {n : Int} (h : 0 < n) : decide (n < 0) = false := decide_eq_false (by omega)
theorem mkh_PtS {x : List Pt} {k : Int} (hw : wL w0 x ≤ 3145728) (hk : 0 < k) (hb : k + sumW c2 x ≤ kM) : ∃ y, gf_cs9 x k = some (k + sumW c2 x, y) ∧ gf_cl9 y k = some (k + sumW c2 x) := by
 obtain ⟨y, h, h2, h3⟩ := mk_list (gf := gf_cs9) (hl := fun l j k K => gl_cl9_1 l j k = some (.inr K)) (c := c2) (w := w0) (fun _ _ => rfl) (fun n k xs => by simp only [gl_cs9_1, ge_dec]; rfl) (fun x k _ hk hb => by
  unfold c2 at hb ⊢
  refine ⟨⟨k, k + 1⟩, fun n i xs hx hi => ?_, fun l j K hl => ?_⟩
  ·simp only [gl_cs9_1, lt_dec hx, if_true, idx_nat, hx, Option.bind_some, mw hk (by omega), mw (show 0 < k + 1 by omega) (by omega), miw hi, Int.toNat_natCast, set_get hx, List.set_set, two_k]
  ·rw [two_k] at hl
   simp only [gl_cl9_1, bne_self_eq_false, mw hk (by omega), mw (show 0 < k + 1 by omega) (by omega)]
   exact hl) (fun _ _ => rfl) x k hw hk hb
 refine ⟨y, h, ?_⟩
 unfold gf_cl9
 rw [if_pos (fits_mid (by unfold wL at hw; omega)), h3]
 rfl
theorem mkh_TagS {x : List Tag} {k : Int} (hw : wL wTag x ≤ 3145728) (hk : 0 < k) (hb : k + sumW c2 x ≤ kM) : ∃ y, gf_cu9 x k = some (k + sumW c2 x, y) ∧ gf_cm9 y k = some (k + sumW c2 x) := by
 obtain ⟨y, h, h2, h3⟩ := mk_list (gf := gf_cu9) (hl := fun l j k K => gl_cm9_1 l j k = some (.inr K)) (c := c2) (w := wTag) (fun _ _ => rfl) (fun n k xs => by simp only [gl_cu9_1, ge_dec]; rfl) (fun x k _ hk hb => by
  unfold c2 at hb ⊢
  obtain ⟨t1, h1⟩ := markText_ok (k := k) (by omega)
  obtain ⟨t2, h2⟩ := markText_ok (k := k + 1) (by omega)
  refine ⟨⟨t1, t2⟩, fun n i xs hx hi => ?_, fun l j K hl => ?_⟩
  ·simp only [gl_cu9_1, lt_dec hx, if_true, idx_nat, hx, h1, h2, Option.bind_some, mw hk (by omega), mw (show 0 < k + 1 by omega) (by omega), miw hi, Int.toNat_natCast, set_get hx, List.set_set, two_k]
  ·rw [two_k] at hl
   simp only [gl_cm9_1, seq_self, Bool.not_true, h1, h2, Option.bind_some, mw hk (by omega), mw (show 0 < k + 1 by omega) (by omega)]
   exact hl) (fun _ _ => rfl) x k hw hk hb
 refine ⟨y, h, ?_⟩
 unfold gf_cm9
 rw [if_pos (fits_mid (by unfold wL at hw; omega)), h3]
 rfl
theorem mkh_FeatS {x : List Feat} {k : Int} (hw : wL wFeat x ≤ 3145728) (hk : 0 < k) (hb : k + sumW cFeat x ≤ kM) : ∃ y, gf_cp9 x k = some (k + sumW cFeat x, y) ∧ gf_ck9 y k = some (k + sumW cFeat x) := by
 obtain ⟨y, h, h2, h3⟩ := mk_list (gf := gf_cp9) (hl := fun l j k K => gl_ck9_1 l j k = some (.inr K)) (c := cFeat) (w := wFeat) (fun _ _ => rfl) (fun n k xs => by simp only [gl_cp9_1, ge_dec]; rfl) (fun x k hwx hk hb => by
  unfold cFeat at hb ⊢
  unfold wFeat wShape at hwx
  obtain ⟨t1, h1⟩ := markText_ok (k := k) (by omega)
  obtain ⟨p, h2, h2'⟩ := mkh_PtS (x := x.shape.pts) (k := k + 1 + 1) (by omega) (by omega) (by omega)
  obtain ⟨q, h3, h3'⟩ := mkh_TagS (x := x.tags) (k := k + 1 + 1 + sumW c2 x.shape.pts) (by omega) (by omega) (by omega)
  have e : k + (((2 + (sumW c2 x.shape.pts + sumW c2 x.tags) : Nat)) : Int) = k + 1 + 1 + sumW c2 x.shape.pts + sumW c2 x.tags := by omega
  refine ⟨⟨t1, ⟨k + 1, p⟩, q⟩, fun n i xs hx hi => ?_, fun l j K hl => ?_⟩
  ·simp only [gl_cp9_1, lt_dec hx, if_true, idx_nat, hx, h1, h2, h3, Option.bind_some, mw hk (by omega), mw (show 0 < k + 1 by omega) (by omega), miw hi, Int.toNat_natCast, set_get hx, List.set_set]
   rw [e]
  ·rw [e] at hl
   simp only [gl_ck9_1, seq_self, bne_self_eq_false, Bool.not_true, h1, h2', h3', Option.bind_some, mw hk (by omega), mw (show 0 < k + 1 by omega) (by omega), ne_dec (show 0 < k + 1 + 1 + (sumW c2 x.shape.pts : Int) by omega), ne_dec (show 0 < k + 1 + 1 + (sumW c2 x.shape.pts : Int) + sumW c2 x.tags by omega)]
   exact hl) (fun _ _ => rfl) x k hw hk hb
 refine ⟨y, h, ?_⟩
 unfold gf_ck9
 rw [if_pos (fits_mid (by unfold wL at hw; omega)), h3]
 rfl
theorem cpa_loop {α : Type} {g : α → Option α} {gl : List α → Nat → List α → Option (List α)} (h0 : ∀ k v, gl [] k v = some v) (h1 : ∀ x l k v, gl (x :: l) k v = (g x).bind fun y => if fits (v ++ [y]).length = true then gl l (k + 1) (v ++ [y]) else none) : ∀ (l : List α) (k : Nat) (v : List α), (∀ x ∈ l, g x = some x) → v.length + l.length ≤ 1048576 → gl l k v = some (v ++ l)
 | [], k, v, _, _ => by rw [h0]; simp
 | x :: l, k, v, hx, hl => by
  simp only [List.length_cons] at hl
  rw [h1, hx x (by simp)]
  simp only [Option.bind_some]
  rw [if_pos (fits_small (by simp; omega)), cpa_loop h0 h1 l (k + 1) _ (fun y hy => hx y (by simp [hy])) (by simp; omega)]
  simp
theorem s_l2Copy {f : Feat} (h : wFeat f ≤ 1048576) : gf_fk9 f = some f := by
 unfold wFeat wShape wL at h
 unfold gf_fk9 gf_ff9
 rw [if_pos (fits_small (by simp; omega))]
 simp only [Option.bind_some]
 rw [if_pos (fits_small (by simp; omega))]
 rfl
theorem s_l3Copy {fs : List Feat} (h : wL wFeat fs ≤ 1048576) : gf_fp9 fs = some fs := by
 have hl : fs.length ≤ 1048576 := by unfold wL at h; omega
 unfold gf_fp9
 rw [if_pos (fits_small hl), cpa_loop (gl := gl_fp9_1) (fun _ _ => rfl) (fun _ _ _ _ => rfl) fs 0 [] (fun x hx => s_l2Copy (by have := sum_mem (w := wFeat) hx; unfold wL at h; omega)) (by simpa using hl)]
 rfl
theorem i_cloneFeat {f : Feat} (h : wFeat f ≤ 1048576) : gf_az9 f = some f := by
 unfold wFeat wShape wL at h
 unfold gf_az9 gf_ba9
 rw [if_pos (fits_small (by simp; omega))]
 simp only [Option.bind_some]
 rw [if_pos (fits_small (by simp; omega))]
 rfl
def cnt (m : List Bool) : Nat → Nat
 | 0 => 0
 | k + 1 => cnt m k + (if trueAt m k = true then 1 else 0)
def newUp (m : List Bool) (c : Commit) : Commit := ⟨c.up.map fun u => (cnt m u.toNat : Int), c.sheet, c.note⟩
def sweepC (m : List Bool) : List Commit → Nat → List Commit
 | [], _ => []
 | x :: l, k => if trueAt m k = true then newUp m x :: sweepC m l (k + 1) else sweepC m l (k + 1)
def setAtH (hs : List Head) (k : Nat) (h : Head) (v : Int) : List Head := hs.set k ⟨h.name, v⟩
def mAdd (r : Repo) (n : Str) (s : List Feat) (t : Str) : Repo × Int :=
 if (mRepo r && (mSheet s && mWord t)) = true then
  (match idx r.heads (mHead r.heads n) with
  | none => (r, 1)
  | some h => match idx r.commits h.at_ with
   | none => (r, 1)
   | some x => if x.sheet = s then (r, 3) else
    if mFind r.commits ⟨[h.at_], s, t⟩ < 0 then
     (if r.commits.length = 14 then (r, 2) else (⟨r.commits ++ [⟨[h.at_], s, t⟩], setAtH r.heads (mHead r.heads n).toNat h r.commits.length⟩, 0))
    else (⟨r.commits, setAtH r.heads (mHead r.heads n).toNat h (mFind r.commits ⟨[h.at_], s, t⟩)⟩, 0))
 else (⟨[], []⟩, 4)
theorem sumW_set {α : Type} {w : α → Nat} : ∀ (xs : List α) (k : Nat) (x y : α), xs[k]? = some x → w y ≤ w x → sumW w (xs.set k y) ≤ sumW w xs
 | [], k, x, y, h, _ => by simp at h
 | z :: xs, 0, x, y, h, hw => by
  simp only [List.getElem?_cons_zero, Option.some.injEq] at h
  subst h
  simp only [List.set_cons_zero, sumW]
  omega
 | z :: xs, k + 1, x, y, h, hw => by
  have := sumW_set xs k x y (by simpa using h) hw
  simp only [List.set_cons_succ, sumW]
  omega
theorem setAtH_w {hs : List Head} {n : Str} {h : Head} {v : Int} (hh : idx hs (mHead hs n) = some h) : wL wHead (setAtH hs (mHead hs n).toNat h v) ≤ wL wHead hs := by
 have h1 := (idx_get hh).2
 have := sumW_set (w := wHead) hs _ h ⟨h.name, v⟩ h1 (Nat.le_refl _)
 unfold wL setAtH
 simp only [List.length_set]
 omega
theorem sumW_app1 {α : Type} {w : α → Nat} : ∀ (a : List α) (x : α), sumW w (a ++ [x]) = sumW w a + w x
 | [], x => by simp [sumW]
 | y :: a, x => by simp only [List.cons_append, sumW, sumW_app1 a x]; omega
theorem mAdd_w {r : Repo} {n t : Str} {s : List Feat} : wRepo (mAdd r n s t).1 ≤ wRepo r + (2 + (wL wFeat s + t.size)) := by
 unfold mAdd
 split
 ·split
  ·simp only; omega
  ·rename_i h hh
   split
   ·simp only; omega
   ·split
    ·simp only; omega
    ·split
     ·split
      ·simp only; omega
      ·have := setAtH_w (v := (r.commits.length : Int)) hh
       simp only [wRepo]
       have e : wL wCommit (r.commits ++ [⟨[h.at_], s, t⟩]) = wL wCommit r.commits + (1 + wCommit ⟨[h.at_], s, t⟩) := by
        unfold wL
        rw [sumW_app1]
        simp
        omega
       have e2 : wCommit ⟨[h.at_], s, t⟩ = 1 + (wL wFeat s + (t.size + 0)) := by unfold wCommit; simp [wL, sumW, w0]
       omega
     ·have := setAtH_w (v := mFind r.commits ⟨[h.at_], s, t⟩) hh
      simp only [wRepo]
      omega
 ·have : wRepo ⟨[], []⟩ = 0 := rfl
  simp only [this]
  omega
theorem sum_le2 {α : Type} {w : α → Nat} {n : Nat} : ∀ {xs : List α}, (∀ x ∈ xs, w x ≤ n) → sumW w xs ≤ n * xs.length
 | [], h => by simp [sumW]
 | x :: xs, h => by
  have h1 := h x (by simp)
  have h2 := sum_le2 (xs := xs) (n := n) fun y hy => h y (by simp [hy])
  simp only [sumW, List.length_cons, Nat.mul_add, Nat.mul_one]
  omega
abbrev onS : Str := ⟨#[111, 110]⟩
def nt (s : Str) : Prop := s.size ≤ 7 ∧ s ≠ onS
theorem allF {α : Type} {p : α → Nat → Bool} {l : List α} {k : Nat} (h : allFrom p l k = true) {x : α} (hx : x ∈ l) : ∃ j, p x j = true := by
 obtain ⟨j, hj⟩ := List.getElem?_of_mem hx
 exact ⟨_, allFrom_get h j x hj⟩
theorem mWord_size {s : Str} (h : mWord s = true) : s.size ≤ 7 := by
 simp only [mWord, Bool.and_eq_true, decide_eq_true_eq] at h
 omega
theorem trueAt_lt {m : List Bool} {k : Nat} (h : trueAt m k = true) : k < m.length := by
 unfold trueAt at h
 rcases Nat.lt_or_ge k m.length with h1 | h1
 ·exact h1
 ·rw [List.getElem?_eq_none h1] at h
  cases h
theorem cnt_mono {m : List Bool} {a : Nat} : ∀ {b : Nat}, a ≤ b → cnt m a ≤ cnt m b
 | 0, h => by
  have : a = 0 := by omega
  subst this; exact Nat.le_refl _
 | b + 1, h => by
  rcases Nat.eq_or_lt_of_le h with rfl | h
  ·exact Nat.le_refl _
  ·have := cnt_mono (m := m) (a := a) (b := b) (by omega)
   simp only [cnt]
   omega
theorem sweepC_len {m : List Bool} : ∀ {l : List Commit} {k : Nat}, (sweepC m l k).length + cnt m k = cnt m (k + l.length)
 | [], k => by simp [sweepC]
 | x :: l, k => by
  have ih := sweepC_len (m := m) (l := l) (k := k + 1)
  simp only [cnt] at ih
  rw [List.length_cons, show k + (l.length + 1) = k + 1 + l.length by omega]
  simp only [sweepC]
  split
  ·rename_i h
   rw [if_pos h] at ih
   simp only [List.length_cons]
   omega
  ·rename_i h
   rw [if_neg h] at ih
   omega
theorem sweepC_get {m : List Bool} : ∀ {l : List Commit} {k j : Nat} {x : Commit}, l[j]? = some x → trueAt m (k + j) = true → (sweepC m l k)[cnt m (k + j) - cnt m k]? = some (newUp m x)
 | [], k, j, x, h, _ => by simp at h
 | y :: l, k, 0, x, h, ht => by
  simp only [List.getElem?_cons_zero, Option.some.injEq] at h
  subst h
  simp only [Nat.add_zero] at ht
  simp [sweepC, ht]
 | y :: l, k, j + 1, x, h, ht => by
  rw [show k + (j + 1) = k + 1 + j by omega] at ht ⊢
  have ih := sweepC_get (m := m) (l := l) (k := k + 1) (j := j) (by simpa using h) ht
  have hm := cnt_mono (m := m) (a := k + 1) (b := k + 1 + j) (by omega)
  simp only [cnt] at ih hm
  simp only [sweepC]
  split
  ·rename_i hk
   rw [if_pos hk] at ih hm
   rw [show cnt m (k + 1 + j) - cnt m k = cnt m (k + 1 + j) - (cnt m k + 1) + 1 by omega, List.getElem?_cons_succ]
   exact ih
  ·rename_i hk
   rw [if_neg hk] at ih
   exact ih
theorem cnt_hit {m : List Bool} : ∀ {n j : Nat}, j < cnt m n → ∃ k, k < n ∧ trueAt m k = true ∧ cnt m k = j
 | 0, j, h => by simp [cnt] at h
 | n + 1, j, h => by
  by_cases hn : j < cnt m n
  ·obtain ⟨k, h1, h2, h3⟩ := cnt_hit hn
   exact ⟨k, by omega, h2, h3⟩
  ·simp only [cnt] at h
   split at h
   ·rename_i ht
    exact ⟨n, by omega, ht, by omega⟩
   ·omega
structure Kept (cs : List Commit) (m : List Bool) : Prop where
 hist : Hist cs
 len : m.length = cs.length
 up : ∀ k x u, cs[k]? = some x → trueAt m k = true → u ∈ x.up → trueAt m u.toNat = true
section
variable {cs : List Commit} {m : List Bool}
theorem Kept.get (h : Kept cs m) {k : Nat} (hk : trueAt m k = true) : ∃ x, cs[k]? = some x ∧ (sweepC m cs 0)[cnt m k]? = some (newUp m x) := by
 obtain ⟨x, hx⟩ := getI (xs := cs) (i := k) (by rw [← h.len]; exact trueAt_lt hk)
 have := sweepC_get (m := m) (l := cs) (k := 0) (j := k) hx (by simpa using hk)
 simp only [Nat.zero_add, cnt, Nat.sub_zero] at this
 exact ⟨x, hx, this⟩
theorem Kept.tot (h : Kept cs m) : (sweepC m cs 0).length = cnt m cs.length := by
 have := sweepC_len (m := m) (l := cs) (k := 0)
 simp only [Nat.zero_add, cnt] at this
 exact this
theorem Kept.from (h : Kept cs m) {j : Nat} {y : Commit} (hy : (sweepC m cs 0)[j]? = some y) : ∃ k x, trueAt m k = true ∧ cnt m k = j ∧ cs[k]? = some x ∧ y = newUp m x := by
 have := get_lt hy
 rw [h.tot] at this
 obtain ⟨k, h1, h2, h3⟩ := cnt_hit this
 obtain ⟨x, h4, h5⟩ := h.get h2
 rw [h3, hy] at h5
 exact ⟨k, x, h2, h3, h4, Option.some.inj h5⟩
end
theorem sheet_w {r : Repo} {k : Nat} {x : Commit} (hw : wRepo r ≤ 1048576) (hx : r.commits[k]? = some x) : wL wFeat x.sheet ≤ 1048576 := by
 have := sum_mem (w := wCommit) (List.mem_of_getElem? hx)
 have h3 : wL wFeat x.sheet ≤ wCommit x := by unfold wCommit; omega
 unfold wRepo at hw
 have h4 : wL wCommit r.commits = r.commits.length + sumW wCommit r.commits := rfl
 omega
structure Added (r : Repo) (n t : Str) (s : List Feat) (i : Nat) (z : Head) (x : Commit) (q : Repo) (k : Nat) : Prop where
 repo : mRepo r = true
 sheet : mSheet s = true
 word : mWord t = true
 hd : mHead r.heads n = (i : Int)
 at_ : r.heads[i]? = some z
 name : z.name = n
 was : r.commits[z.at_.toNat]? = some x
 ge : 0 ≤ z.at_
 ne : x.sheet ≠ s
 eq : mAdd r n s t = (q, 0)
 heads : q.heads = r.heads.set i ⟨z.name, (k : Int)⟩
 comm : (q.commits = r.commits ∧ k < r.commits.length) ∨ (q.commits = r.commits ++ [⟨[z.at_], s, t⟩] ∧ k = r.commits.length ∧ r.commits.length < 14)
 get : q.commits[k]? = some ⟨[z.at_], s, t⟩
 repo' : mRepo q = true
section
variable {r q : Repo} {n t : Str} {s : List Feat} {i k : Nat} {z : Head} {x : Commit}
theorem Added.w (h : Added r n t s i z x q k) (hw : wRepo r ≤ 1000000) (hs : wL wFeat s ≤ 20000) (ht : t.size ≤ 7) : wRepo q ≤ wRepo r + 20010 := by
 have h1 := mAdd_w (r := r) (n := n) (t := t) (s := s)
 rw [h.eq] at h1
 simp only at h1
 omega
theorem Added.pre (h : Added r n t s i z x q k) : q.commits.take r.commits.length = r.commits := by
 rcases h.comm with ⟨h1, _⟩ | ⟨h1, _⟩ <;> rw [h1] <;> simp
end
theorem root_anc {cs : List Commit} (h : mCommits cs = true) : ∀ (n a : Nat), a ≤ n → a < cs.length → Anc cs a 0
 | n, 0, _, _ => .refl 0
 | 0, a + 1, h1, _ => by omega
 | n + 1, a + 1, h1, h2 => by
  obtain ⟨c, hc⟩ := getI h2
  have hu := (commits_up h hc).1
  have hlt := (up_lt hu).1
  simp only [mUp, Bool.and_eq_true, beq_iff_eq] at hu
  have h3 : decide (0 < c.up.length) = true := by rw [hu.2.2.1]; simp
  have h3 := of_decide_eq_true h3
  obtain ⟨u, hu0⟩ := getI h3
  have hm := List.mem_of_getElem? hu0
  have h4 := hlt u hm
  exact (Anc.up (.refl (a + 1)) hc hm).trans (root_anc h n u.toNat (by omega) (by omega))
theorem repo_commits {r : Repo} (h : mRepo r = true) : mCommits r.commits = true := by
 unfold mRepo at h
 simp only [Bool.and_eq_true] at h
 exact h.2.2.2.2.1
theorem downF_head {p : Nat → Bool} : ∀ {n k : Nat}, k < n → p k = true → ∃ m : Nat, (downF p n).head? = some (m : Int) ∧ m < n ∧ p m = true ∧ ∀ j : Nat, m < j → j < n → p j = false
 | 0, k, h, _ => by omega
 | n + 1, k, h, hp => by
  simp only [downF]
  by_cases hn : p n = true
  ·rw [if_pos hn]
   exact ⟨n, rfl, by omega, hn, fun j h1 h2 => by omega⟩
  ·rw [if_neg hn]
   have hk : k < n := by
    rcases Nat.lt_or_ge k n with h1 | h1
    ·exact h1
    ·have : k = n := by omega
     subst this
     exact absurd hp hn
   obtain ⟨m, h1, h2, h3, h4⟩ := downF_head hk hp
   exact ⟨m, h1, by omega, h3, fun j h5 h6 => by
    rcases Nat.lt_or_ge j n with h7 | h7
    ·exact h4 j h5 h7
    ·have : j = n := by omega
     subst this
     simpa using hn⟩
theorem mJoinBase_out {r : Repo} {a b : Int} (h : ¬ (inR r a && inR r b) = true) : mJoinBase r a b = -1 := by
 unfold mJoinBase
 rw [if_neg h]
 rfl
theorem mJoinBase_in {r : Repo} {a b : Nat} (hr : mRepo r = true) (ha : a < r.commits.length) (hb : b < r.commits.length) : ∃ k : Nat, mJoinBase r a b = (k : Int) ∧ k < r.commits.length ∧ Com r.commits a b k ∧ ∀ j, k < j → ¬ Com r.commits a b j := by
 have hc := repo_hist hr
 have h1 : (inR r (a : Int) && inR r (b : Int)) = true := by unfold inR; rw [hr]; simp; omega
 have h0 : Com r.commits a b 0 := ⟨root_anc (repo_commits hr) _ a (Nat.le_refl _) ha, root_anc (repo_commits hr) _ b (Nat.le_refl _) hb⟩
 obtain ⟨i, hi, _⟩ := base_above hc _ 0 (Nat.le_refl _) h0
 have hil : i < r.commits.length := by have := hi.1.1.le hc; omega
 obtain ⟨m, m1, m2, m3, m4⟩ := downF_head (p := fun k => @decide (Base r.commits a b k) (Classical.propDecidable _)) hil (by simpa using hi)
 refine ⟨m, ?_, m2, ?_, fun j hj hcm => ?_⟩
 ·unfold mJoinBase
  rw [if_pos h1]
  simp only [Int.toNat_natCast]
  unfold mBases
  rw [m1]
  rfl
 ·have : Base r.commits a b m := by simpa using m3
  exact this.1
 ·obtain ⟨e, he, he2⟩ := base_above hc _ j (Nat.le_refl _) hcm
  have h5 := he2.le hc
  have h6 : e < r.commits.length := by have := he.1.1.le hc; omega
  have h7 := m4 e (by omega) h6
  simp at h7
  exact h7 he
def nF : Feat := ⟨⟨#[]⟩, ⟨0, []⟩, []⟩
theorem fst_find {α : Type} {p : α → Bool} : ∀ (l : List α) (k : Nat), (l.find? p = none ∧ fstFrom p l k = -1) ∨ ∃ j x, l.find? p = some x ∧ fstFrom p l k = ((k + j : Nat) : Int) ∧ l[j]? = some x ∧ p x = true
 | [], k => .inl ⟨rfl, rfl⟩
 | y :: l, k => by
  simp only [List.find?_cons, fstFrom]
  cases hp : p y
  ·rcases fst_find (p := p) l (k + 1) with ⟨h1, h2⟩ | ⟨j, x, h1, h2, h3, h4⟩
   ·exact .inl ⟨h1, by simpa using h2⟩
   ·exact .inr ⟨j + 1, x, h1, by simp only [h2]; simp; omega, h3, h4⟩
  ·exact .inr ⟨0, y, rfl, by simp, rfl, hp⟩
def mSide (s : List Feat) (id : Str) : Feat × Bool := match s.find? (fun f : Feat => decide (f.id = id)) with
 | some f => (f, true)
 | none => (nF, false)
theorem i_featAt {s : List Feat} {id : Str} (hl : s.length ≤ 1048576) : gf_bb9 s id = some (fstFrom (fun f : Feat => decide (f.id = id)) s 0) := by
 unfold gf_bb9 gf_ej9
 have h := loopF (gl := gl_ej9_1 id) (p := fun f : Feat => decide (f.id = id)) (ok := fun _ => True) (fun _ => rfl) (fun x l k _ => by simp only [gl_ej9_1, gf_bc9, seq_dec, Option.bind_some]) s 0 (fun _ _ => trivial)
 rw [if_pos (fits_small hl)]
 exact (congrArg (fun o => Option.bind o fun x2 => some x2) h)
theorem s_l3Find {s : List Feat} {id : Str} (hl : s.length ≤ 1048576) : gf_fq9 s id = some (fstFrom (fun f : Feat => decide (f.id = id)) s 0) := by
 unfold gf_fq9
 have h := loopF (gl := gl_fq9_1 id) (p := fun f : Feat => decide (f.id = id)) (ok := fun _ => True) (fun _ => rfl) (fun x l k _ => by simp only [gl_fq9_1, seq_dec]) s 0 (fun _ _ => trivial)
 rw [if_pos (fits_small hl)]
 exact h
theorem i_side {s : List Feat} {id : Str} (h : wL wFeat s ≤ 1048576) : gf_bp9 s id = some (mSide s id) := by
 have hl : s.length ≤ 1048576 := by unfold wL at h; omega
 unfold gf_bp9 mSide
 rw [i_featAt hl, Option.bind_some]
 rcases fst_find (p := fun f : Feat => decide (f.id = id)) s 0 with ⟨h1, h2⟩ | ⟨j, x, h1, h2, h3, h4⟩
 ·rw [h1, h2]; rfl
 ·have hx := sum_mem (w := wFeat) (List.mem_of_getElem? h3)
  rw [h1, h2, if_neg (by simp), idx_nat, Nat.zero_add, h3, Option.bind_some, i_cloneFeat (by unfold wL at h; omega)]
  rfl
theorem s_l4Side {s : List Feat} {id : Str} (h : wL wFeat s ≤ 1048576) : gf_ft9 s id = some (mSide s id) := by
 have hl : s.length ≤ 1048576 := by unfold wL at h; omega
 unfold gf_ft9 mSide
 rw [s_l3Find hl, Option.bind_some]
 rcases fst_find (p := fun f : Feat => decide (f.id = id)) s 0 with ⟨h1, h2⟩ | ⟨j, x, h1, h2, h3, h4⟩
 ·rw [h1, h2]; rfl
 ·have hx := sum_mem (w := wFeat) (List.mem_of_getElem? h3)
  rw [h1, h2, if_neg (by simp), idx_nat, Nat.zero_add, h3, Option.bind_some, s_l2Copy (by unfold wL at h; omega)]
  rfl
def mCutF (s : List Feat) (id : Str) : List Feat := s.filter fun y => !decide (y.id = id)
def mPut (f : Feat) : List Feat → List Feat
 | [] => [f]
 | x :: l => if slt x.id f.id = true then x :: mPut f l else f :: mCutF (x :: l) f.id
theorem slt_ne {a b : Str} (h : slt a b = true) : a ≠ b := fun e => by
 rw [e, slt_sw.irrefl] at h
 cases h
theorem mCutF_cons {x : Feat} {l : List Feat} {id : Str} : mCutF (x :: l) id = if x.id = id then mCutF l id else x :: mCutF l id := by
 unfold mCutF
 rw [List.filter_cons]
 by_cases h : x.id = id <;> simp [h]
theorem put_done {f : Feat} : ∀ (l : List Feat) (k : Nat) (v : List Feat), v.length + l.length ≤ 1048576 → gl_fr9_1 f l k true v = some (true, v ++ mCutF l f.id)
 | [], k, v, _ => by simp [gl_fr9_1, mCutF]
 | x :: l, k, v, h => by
  simp only [List.length_cons] at h
  simp only [gl_fr9_1, seq_dec, Bool.not_true, Bool.false_eq_true, if_false, Option.bind_some]
  rw [mCutF_cons]
  by_cases e : x.id = f.id
  ·rw [if_neg (by simp [e]), put_done l (k + 1) v (by omega), if_pos e]
  ·rw [if_pos (by simp [e]), if_pos (fits_small (by simp; omega)), put_done l (k + 1) _ (by simp; omega), if_neg e]
   simp
theorem put_todo {f : Feat} : ∀ (l : List Feat) (k : Nat) (v : List Feat), v.length + l.length + 1 ≤ 1048576 → ∃ d o, gl_fr9_1 f l k false v = some (d, o) ∧ (if d = true then o else o ++ [f]) = v ++ mPut f l
 | [], k, v, _ => ⟨false, v, rfl, by simp [mPut]⟩
 | x :: l, k, v, h => by
  simp only [List.length_cons] at h
  simp only [gl_fr9_1, seq_dec, Bool.not_false, if_true, mPut]
  by_cases e : slt x.id f.id = true
  ·have hn := slt_ne e
   obtain ⟨d, o, h1, h2⟩ := put_todo l (k + 1) (v ++ [x]) (by simp; omega)
   refine ⟨d, o, ?_, by rw [h2, if_pos e]; simp⟩
   rw [if_neg (by simp [e]), Option.bind_some]
   simp only
   rw [if_pos (by simp [hn]), if_pos (fits_small (by simp; omega)), h1]
  ·rw [if_pos (by simpa using e), if_pos (fits_small (by simp; omega)), Option.bind_some]
   simp only
   rw [if_neg e, mCutF_cons]
   by_cases e2 : x.id = f.id
   ·rw [if_neg (by simp [e2]), put_done l (k + 1) _ (by simp; omega), if_pos e2]
    exact ⟨true, _, rfl, by simp⟩
   ·rw [if_pos (by simp [e2]), if_pos (fits_small (by simp; omega)), put_done l (k + 1) _ (by simp; omega), if_neg e2]
    exact ⟨true, _, rfl, by simp⟩
theorem mPut_len {f : Feat} : ∀ (l : List Feat), (mPut f l).length ≤ l.length + 1
 | [] => by simp [mPut]
 | x :: l => by
  have := mPut_len (f := f) l
  have h2 : (mCutF (x :: l) f.id).length ≤ (x :: l).length := List.length_filter_le _ _
  unfold mPut
  split
  ·simp only [List.length_cons]; omega
  ·simp only [List.length_cons] at h2 ⊢; omega
theorem s_l3Put {s : List Feat} {f : Feat} (h : s.length + 1 ≤ 1048576) : gf_fr9 s f = some (mPut f s) := by
 obtain ⟨d, o, h1, h2⟩ := put_todo (f := f) s 0 [] (by simp; omega)
 have h3 := mPut_len (f := f) s
 simp only [List.nil_append] at h2
 unfold gf_fr9
 rw [if_pos (fits_small (by omega)), h1, Option.bind_some]
 cases d
 ·simp only [Bool.not_false, if_true]
  simp only [Bool.false_eq_true, if_false] at h2
  rw [if_pos (fits_small (by rw [h2]; omega)), h2]
 ·simp only [if_true] at h2
  simp [h2]
def Pw (v : List Feat) : Prop := v.Pairwise fun a b => slt a.id b.id = true
theorem mPut_mem {f : Feat} : ∀ {l : List Feat} {y : Feat}, y ∈ mPut f l → y = f ∨ y ∈ l
 | [], y, h => by simpa [mPut] using h
 | x :: l, y, h => by
  unfold mPut at h
  split at h
  ·rcases List.mem_cons.1 h with h | h
   ·exact .inr (by simp [h])
   ·rcases mPut_mem h with h | h
    ·exact .inl h
    ·exact .inr (by simp [h])
  ·rcases List.mem_cons.1 h with h | h
   ·exact .inl h
   ·exact .inr (List.mem_filter.1 h).1
theorem mPut_pw {f : Feat} : ∀ {l : List Feat}, Pw l → Pw (mPut f l)
 | [], _ => by simp [mPut, Pw]
 | x :: l, h => by
  unfold Pw at h
  rw [List.pairwise_cons] at h
  unfold mPut
  by_cases e : slt x.id f.id = true
  ·rw [if_pos e]
   unfold Pw
   rw [List.pairwise_cons]
   refine ⟨fun y hy => ?_, mPut_pw h.2⟩
   rcases mPut_mem hy with rfl | hy
   ·exact e
   ·exact h.1 y hy
  ·rw [if_neg e]
   unfold Pw
   rw [List.pairwise_cons]
   refine ⟨fun y hy => ?_, List.Pairwise.filter _ (List.pairwise_cons.2 h)⟩
   obtain ⟨hy, hn⟩ := List.mem_filter.1 hy
   simp only [Bool.not_eq_true', decide_eq_false_iff_not] at hn
   have hf : slt x.id f.id = false := by simpa using e
   have hxy : slt y.id f.id = false := by
    rcases List.mem_cons.1 hy with rfl | hy
    ·exact hf
    ·cases h2 : slt y.id f.id
     ·rfl
     ·rw [slt_sw.trans _ _ _ (h.1 y hy) h2] at hf; cases hf
   cases h3 : slt f.id y.id
   ·exact absurd (slt_anti hxy h3) hn
   ·rfl
theorem mPut_perm {f : Feat} : ∀ {l : List Feat}, (mPut f l).Perm (f :: mCutF l f.id)
 | [] => by simp [mPut, mCutF]
 | x :: l => by
  unfold mPut
  by_cases e : slt x.id f.id = true
  ·rw [if_pos e, mCutF_cons, if_neg (slt_ne e)]
   exact (List.Perm.cons x mPut_perm).trans (List.Perm.swap f x _)
  ·rw [if_neg e]
theorem mSheet_pw {s : List Feat} (h : mSheet s = true) : Pw s := by
 unfold mSheet at h
 rw [Bool.and_eq_true] at h
 have key : ∀ k x y, s[k]? = some x → s[k + 1]? = some y → slt x.id y.id = true := by
  intro k x y hx hy
  have := allFrom_get h.1 (k + 1) y hy
  simp only [Nat.zero_add, Bool.and_eq_true, Bool.or_eq_true, decide_eq_true_eq, mPrev, Nat.add_sub_cancel, hx] at this
  rcases this.2 with h | h
  ·omega
  ·exact h
 clear h
 induction s with
 | nil => exact List.Pairwise.nil
 | cons a s ih =>
  have ih := ih fun k x y hx hy => key (k + 1) x y hx hy
  unfold Pw
  rw [List.pairwise_cons]
  refine ⟨?_, ih⟩
  cases s with
  | nil => intro y hy; cases hy
  | cons b s =>
   have h1 := key 0 a b rfl rfl
   have ih2 := ih
   unfold Pw at ih2
   rw [List.pairwise_cons] at ih2
   intro y hy
   rcases List.mem_cons.1 hy with rfl | hy
   ·exact h1
   ·exact slt_sw.trans _ _ _ h1 (ih2.1 y hy)
theorem side_w {s : List Feat} {id : Str} : wFeat (mSide s id).1 ≤ wL wFeat s := by
 unfold mSide
 split
 ·rename_i f hf
  have := sum_mem (w := wFeat) (List.mem_of_find?_eq_some hf)
  unfold wL
  simp only
  omega
 ·exact Nat.zero_le _
theorem mFeat_w {f : Feat} (h : mFeat f = true) : wFeat f ≤ 100 := by
 unfold mFeat mShape mTags at h
 simp only [Bool.and_eq_true, decide_eq_true_eq] at h
 obtain ⟨h1, ⟨h2, h3, h4⟩, h5, h6⟩ := h
 have a1 := mWord_size h1
 have a2 : sumW wTag f.tags ≤ 14 * f.tags.length := sum_le2 fun t ht => by
  obtain ⟨j, hj⟩ := allF h5 ht
  simp only [Bool.and_eq_true] at hj
  have b1 := mWord_size hj.1
  have b2 := mWord_size hj.2.1
  unfold wTag
  omega
 have a3 := sum_w0 f.shape.pts
 unfold wFeat wShape wL
 omega
def SPw (v : List Str) : Prop := v.Pairwise fun a b => slt a b = true
theorem spw_nodup {v : List Str} (h : SPw v) : v.Nodup := List.Pairwise.imp (fun h => slt_ne h) h
theorem spw_one {a b : List Str} (ha : SPw a) (hb : SPw b) (h : ∀ x, x ∈ a ↔ x ∈ b) : a = b := by
 have hp : a.Perm b := (List.perm_ext_iff_of_nodup (spw_nodup ha) (spw_nodup hb)).2 h
 refine List.Perm.eq_of_pairwise (le := fun a b => slt a b = true) (fun x y _ _ g1 g2 => ?_) ha hb hp
 have := slt_sw.trans _ _ _ g1 g2
 rw [slt_sw.irrefl] at this
 cases this
theorem leS_trans (a b c : Str) : leS a b = true → leS b c = true → leS a c = true := by
 unfold leS
 simp only [Bool.not_eq_true']
 exact fun h1 h2 => slt_sw.ntrans _ _ _ h2 h1
theorem leS_total (a b : Str) : (leS a b || leS b a) = true := by
 unfold leS
 cases h : slt b a
 ·rfl
 ·cases h2 : slt a b
  ·rfl
  ·have := slt_sw.trans _ _ _ h h2
   rw [slt_sw.irrefl] at this
   cases this
theorem leS_lt {a b : Str} (h : leS a b = true) (hn : a ≠ b) : slt a b = true := by
 unfold leS at h
 cases h2 : slt a b
 ·exact absurd (slt_anti h2 (by simpa using h)) hn
 ·rfl
theorem le_slt {a b c : Str} (h : leS a b = true) (h2 : slt b c = true) : slt a c = true := by
 by_cases e : a = b
 ·rw [e]; exact h2
 ·exact slt_sw.trans _ _ _ (leS_lt h e) h2
theorem comp_mem {xs : List Str} {y : Str} : y ∈ Go.Lib.compact xs ↔ y ∈ xs := by
 unfold Go.Lib.compact Go.Lib.compactUpTo
 rw [List.mem_map]
 constructor
 ·rintro ⟨j, hj, rfl⟩
  rw [List.mem_filter, List.mem_range] at hj
  rw [getElem!_pos _ j (by simpa using hj.1)]
  simp
 ·intro h
  obtain ⟨j, hj⟩ := List.mem_iff_getElem?.1 h
  induction j using Nat.strongRecOn with
  | _ j ih =>
   have hl := (List.getElem?_eq_some_iff.1 hj).1
   have he := (List.getElem?_eq_some_iff.1 hj).2
   by_cases hk : j = 0 ∨ xs.toArray[j]! ≠ xs.toArray[j - 1]!
   ·refine ⟨j, ?_, ?_⟩
    ·rw [List.mem_filter, List.mem_range]
     exact ⟨hl, by unfold Go.Lib.keeps; exact decide_eq_true hk⟩
    ·rw [getElem!_pos _ j (by simpa using hl)]
     simpa using he
   ·have h0 : j ≠ 0 := fun e => hk (.inl e)
    have h1 : xs.toArray[j]! = xs.toArray[j - 1]! := Classical.not_not.1 fun e => hk (.inr e)
    rw [getElem!_pos _ j (by simpa using hl), getElem!_pos _ (j - 1) (by simp; omega)] at h1
    simp only [List.getElem_toArray] at h1
    refine ih (j - 1) (by omega) ?_
    rw [List.getElem?_eq_getElem (by omega), ← h1, he]
theorem comp_pw {xs : List Str} (h : xs.Pairwise fun a b => leS a b = true) : SPw (Go.Lib.compact xs) := by
 unfold Go.Lib.compact Go.Lib.compactUpTo SPw
 rw [List.pairwise_map, List.pairwise_filter]
 have hr := List.pairwise_lt_range (n := xs.length)
 refine List.Pairwise.imp_of_mem (fun {i j} hi hj hij _ hk => ?_) hr
 rw [List.mem_range] at hi hj
 rw [List.pairwise_iff_getElem] at h
 unfold Go.Lib.keeps at hk
 have hk := of_decide_eq_true hk
 rw [getElem!_pos _ i (by simpa using hi), getElem!_pos _ j (by simpa using hj)]
 rw [getElem!_pos _ j (by simpa using hj), getElem!_pos _ (j - 1) (by simp; omega)] at hk
 simp only [List.getElem_toArray] at hk ⊢
 have hne : xs[j] ≠ xs[j - 1] := by
  rcases hk with hk | hk
  ·omega
  ·exact hk
 have h1 : slt xs[j - 1] xs[j] = true := leS_lt (h (j - 1) j (by omega) hj (by omega)) (Ne.symm hne)
 by_cases e : i = j - 1
 ·subst e; exact h1
 ·exact le_slt (h i (j - 1) hi (by omega) (by omega)) h1
def mIds (a b : List Feat) : List Str := (b.foldl (fun v x => mPut x v) a).map (·.id)
theorem mPut_mem2 {f : Feat} : ∀ {l : List Feat} {i : Str}, i ∈ (mPut f l).map (·.id) ↔ i = f.id ∨ i ∈ l.map (·.id) := by
 intro l i
 have hp := (mPut_perm (f := f) (l := l)).map (·.id)
 rw [hp.mem_iff, List.map_cons, List.mem_cons]
 constructor
 ·rintro (h | h)
  ·exact .inl h
  ·obtain ⟨y, hy, e⟩ := List.mem_map.1 h
   exact .inr (List.mem_map.2 ⟨y, (List.mem_filter.1 hy).1, e⟩)
 ·rintro (h | h)
  ·exact .inl h
  ·by_cases e : i = f.id
   ·exact .inl e
   ·obtain ⟨y, hy, e2⟩ := List.mem_map.1 h
    refine .inr (List.mem_map.2 ⟨y, List.mem_filter.2 ⟨hy, ?_⟩, e2⟩)
    have : ¬ y.id = f.id := fun e3 => e (by rw [← e2, e3])
    simp [this]
theorem fold_mem : ∀ {b a : List Feat} {i : Str}, i ∈ (b.foldl (fun v x => mPut x v) a).map (·.id) ↔ i ∈ a.map (·.id) ∨ i ∈ b.map (·.id)
 | [], a, i => by simp
 | x :: b, a, i => by
  rw [List.foldl_cons, fold_mem, mPut_mem2, List.map_cons, List.mem_cons]
  constructor
  ·rintro ((h | h) | h)
   ·exact .inr (.inl h)
   ·exact .inl h
   ·exact .inr (.inr h)
  ·rintro (h | h | h)
   ·exact .inl (.inr h)
   ·exact .inl (.inl h)
   ·exact .inr h
theorem fold_pw : ∀ {b a : List Feat}, Pw a → Pw (b.foldl (fun v x => mPut x v) a)
 | [], a, h => h
 | x :: b, a, h => fold_pw (b := b) (mPut_pw h)
theorem mIds_pw {a b : List Feat} (h : Pw a) : SPw (mIds a b) := by
 unfold mIds SPw
 rw [List.pairwise_map]
 exact fold_pw h
theorem s_l4Ids' {a b : List Feat} (ha : a.length + b.length ≤ 1000) : gf_fs9 a b = some (mIds a b) := by
 have k1 : ∀ (l : List Feat) (k : Nat) (v : List Feat), v.length + l.length ≤ 1000 → gl_fs9_1 l k v = some (l.foldl (fun v x => mPut x v) v) ∧ (l.foldl (fun v x => mPut x v) v).length ≤ v.length + l.length := by
  intro l
  induction l with
  | nil => intro k v _; exact ⟨rfl, by simp⟩
  | cons x l ih =>
   intro k v h
   simp only [List.length_cons] at h
   have hp := mPut_len (f := x) v
   obtain ⟨h1, h2⟩ := ih (k + 1) (mPut x v) (by omega)
   exact ⟨by simp only [gl_fs9_1, s_l3Put (s := v) (f := x) (by omega), Option.bind_some, h1, List.foldl_cons], by simp only [List.length_cons, List.foldl_cons]; omega⟩
 have k2 : ∀ (l : List Feat) (k : Nat) (v : List Str), v.length + l.length ≤ 1000 → gl_fs9_2 l k v = some (v ++ l.map (·.id)) := by
  intro l
  induction l with
  | nil => intro k v _; simp [gl_fs9_2]
  | cons x l ih =>
   intro k v h
   simp only [List.length_cons] at h
   simp only [gl_fs9_2]
   rw [if_pos (fits_small (by simp; omega)), ih _ _ (by simp; omega)]
   simp
 obtain ⟨h1, h2⟩ := k1 b 0 a (by omega)
 unfold gf_fs9
 rw [if_pos (fits_small (by omega)), h1, Option.bind_some, if_pos (fits_small (by omega)), k2 _ 0 [] (by simp; omega)]
 rfl
def mLong (a b : List Pt) : Int := (lnRow a b 0).headD 0
theorem lnRow_drop0 (a b : List Pt) (i : Nat) : lnRow (a.drop i) b 0 = lnRow a b i := by
 unfold lnRow
 rw [List.drop_zero]
theorem lrow_drop (x : Pt) : ∀ (b : List Pt) (ls : List Int) (j : Nat), j ≤ b.length → (lrow x b ls).drop j = lrow x (b.drop j) (ls.drop j)
 | b, ls, 0, h => by simp
 | [], ls, j + 1, h => by simp at h
 | y :: b, ls, j + 1, h => by
  have h : j ≤ b.length := by simpa using h
  simp only [lrow, List.drop_succ_cons]
  rw [lrow_drop x b ls.tail j h]
  congr 1
  cases ls <;> simp
theorem row0_drop (b : List Pt) (j : Nat) (hj : j ≤ b.length) : ∀ a : List Pt, (lnRow a b 0).drop j = lnRow a (b.drop j) 0
 | [] => by
  rw [show lnRow [] b 0 = List.replicate (b.length + 1) 0 from rfl, show lnRow [] (b.drop j) 0 = List.replicate ((b.drop j).length + 1) 0 from rfl, List.drop_replicate, List.length_drop]
  congr 1
  omega
 | x :: a => by
  have ih := row0_drop b j hj a
  have e : ∀ c, lnRow (x :: a) c 0 = lrow x c (lnRow a c 0) := fun c => rfl
  rw [e, e, lrow_drop x b _ j hj, ih]
theorem row_get {a b : List Pt} {i j : Nat} (hj : j ≤ b.length) : (lnRow a b i)[j]? = some (mLong (a.drop i) (b.drop j)) := by
 have e : (lnRow a b i)[j]? = ((lnRow a b i).drop j)[0]? := by simp
 rw [e, ← lnRow_drop0, row0_drop b j hj]
 unfold mLong
 have h : (lnRow (a.drop i) (b.drop j) 0).length = (b.drop j).length + 1 := lnRow_len _ _ (Nat.zero_le _)
 cases hc : lnRow (a.drop i) (b.drop j) 0 with
 | nil => rw [hc] at h; simp at h
 | cons v l => rfl
theorem lens_get {a b : List Pt} {i : Nat} (hi : i ≤ a.length) : (lens a b)[i]? = some (lnRow a b i) := by
 rw [lens_rows, List.getElem?_map, List.getElem?_range (by omega)]
 rfl
theorem wr1 {z : Int} (h0 : -100000 ≤ z) (h1 : z ≤ 100000) : IntKind.i64.wrap z = z := wrap_id (by omega) (by omega)
theorem s_l1Max {a b : Int} : gf_fg9 a b = some (max a b) := by
 unfold gf_fg9
 by_cases h : a > b
 ·rw [if_pos (decide_eq_true h)]
  congr 1
  omega
 ·rw [if_neg (by simpa using h)]
  congr 1
  omega
theorem set_tab1 {L : List Int} {j : Nat} {v : Int} (h : L[j]? = some v) : (List.replicate (j + 1) 0 ++ L.drop (j + 1)).set j v = List.replicate j 0 ++ L.drop j := by
 obtain ⟨h1, h2⟩ := List.getElem?_eq_some_iff.1 h
 rw [List.drop_eq_getElem_cons h1, h2, List.replicate_succ', List.append_assoc, List.set_append_right _ _ (by simp)]
 simp
theorem long5 {a b : List Pt} {i : Nat} (hi : i < a.length) (ha : a.length ≤ 1000) (hb : b.length ≤ 1000) : ∀ (q N : Nat), q < N → q ≤ b.length → gl_fw9_5 a (i : Int) b (lnRow a b (i + 1)) N ((q : Int) - 1) (List.replicate q 0 ++ (lnRow a b i).drop q) = some (lnRow a b i)
 | 0, N + 1, h, hq => by
  simp only [gl_fw9_5]
  rw [if_neg (by simp)]
  simp
 | j + 1, N + 1, h, hq => by
  have hx := List.getElem?_eq_getElem hi
  have hy := List.getElem?_eq_getElem (show j < b.length by omega)
  have hst := lnRow_step (b := b) hx
  have hget := lrow_get a[i] b (lnRow a b (i + 1)) j _ hy
  rw [← hst] at hget
  have hLi := lnRow_len a b (show i ≤ a.length by omega)
  have hLj := lnRow_len a b (show i + 1 ≤ a.length by omega)
  have hv1 := List.getElem?_eq_getElem (show j + 1 < (lnRow a b (i + 1)).length by omega)
  have hv0 := List.getElem?_eq_getElem (show j < (lnRow a b (i + 1)).length by omega)
  have hv2 := List.getElem?_eq_getElem (show j + 1 < (lnRow a b i).length by omega)
  have hb1 := lnRow_b a b _ (i + 1) (by omega) rfl _ _ hv1
  have e0 : ((j + 1 : Nat) : Int) - 1 = (j : Int) := by omega
  have e1 : IntKind.i64.wrap ((j : Int) + 1) = ((j + 1 : Nat) : Int) := by rw [wr1 (by omega) (by omega)]; omega
  have e2 : IntKind.i64.wrap ((j : Int) - 1) = (j : Int) - 1 := wr1 (by omega) (by omega)
  have hu : (List.replicate (j + 1) 0 ++ (lnRow a b i).drop (j + 1))[j]? = some 0 := by
   rw [List.getElem?_append_left (by simp), List.getElem?_replicate, if_pos (by omega)]
  have hu2 : (List.replicate (j + 1) 0 ++ (lnRow a b i).drop (j + 1))[j + 1]? = some (lnRow a b i)[j + 1] := by
   rw [List.getElem?_append_right (by simp)]
   simp
  rw [hv1, hv0, hv2] at hget
  simp only [Option.getD_some] at hget
  simp only [gl_fw9_5]
  rw [e0, if_pos (decide_eq_true (by omega)), idx_nat, hx, Option.bind_some, idx_nat, hy, Option.bind_some, e1, e2]
  have ih := long5 hi ha hb j N (by omega) (by omega)
  split
  ·rename_i hp
   rw [if_pos hp] at hget
   rw [idx_nat, hv1, Option.bind_some, idx_nat, hu, Option.bind_some, wr1 (by omega) (by omega), Int.toNat_natCast, set_tab1 hget]
   exact ih
  ·rename_i hp
   rw [if_neg hp] at hget
   rw [idx_nat, hv0, Option.bind_some, idx_nat, hu2, Option.bind_some, s_l1Max, Option.bind_some, idx_nat, hu, Option.bind_some, Int.toNat_natCast, set_tab1 hget]
   exact ih
theorem long4 {a b : List Pt} (ha : a.length ≤ 1000) (hb : b.length ≤ 1000) : ∀ (m N : Nat), m < N → m ≤ a.length → gl_fw9_4 b a N ((m : Int) - 1) (lnRow a b m) = some (lnRow a b 0)
 | 0, N + 1, h, hm => by
  simp only [gl_fw9_4]
  rw [if_neg (by simp)]
 | i + 1, N + 1, h, hm => by
  have e0 : ((i + 1 : Nat) : Int) - 1 = (i : Int) := by omega
  have e1 : IntKind.i64.wrap ((b.length : Int) + 1) = ((b.length + 1 : Nat) : Int) := by rw [wr1 (by omega) (by omega)]; omega
  have e2 : IntKind.i64.wrap ((b.length : Int) - 1) = (b.length : Int) - 1 := wr1 (by omega) (by omega)
  have e3 : IntKind.i64.wrap ((i : Int) - 1) = (i : Int) - 1 := wr1 (by omega) (by omega)
  have hl := lnRow_last a b (show i ≤ a.length by omega)
  obtain ⟨h1, h2⟩ := List.getElem?_eq_some_iff.1 hl
  have hLi := lnRow_len a b (show i ≤ a.length by omega)
  have e4 : List.replicate (b.length + 1) (0 : Int) = List.replicate b.length 0 ++ (lnRow a b i).drop b.length := by
   rw [List.drop_eq_getElem_cons h1, h2, List.drop_eq_nil_of_le (by omega), List.replicate_succ']
  have h5 := long5 (show i < a.length by omega) ha hb b.length rounds (by unfold rounds; omega) (Nat.le_refl _)
  simp only [gl_fw9_4]
  rw [e0, if_pos (decide_eq_true (by omega)), e1, e2, Int.toNat_natCast, if_pos (by rw [fits_small (by omega), Bool.and_true]; exact decide_eq_true (by omega)), e4, h5, Option.bind_some, e3]
  exact long4 ha hb i N (by omega) (by omega)
theorem s_l5Long {a b : List Pt} (ha : a.length ≤ 1000) (hb : b.length ≤ 1000) : gf_fw9 a b = some (mLong a b) := by
 have e1 : IntKind.i64.wrap ((b.length : Int) + 1) = ((b.length + 1 : Nat) : Int) := by rw [wr1 (by omega) (by omega)]; omega
 have e2 : IntKind.i64.wrap ((a.length : Int) - 1) = (a.length : Int) - 1 := wr1 (by omega) (by omega)
 unfold gf_fw9
 have h4 := long4 ha hb a.length rounds (by unfold rounds; omega) (Nat.le_refl _)
 rw [lnRow_end] at h4
 have h0 := row_get (a := a) (b := b) (i := 0) (Nat.zero_le b.length)
 rw [e1, e2, Int.toNat_natCast, if_pos (by rw [fits_small (by omega), Bool.and_true]; exact decide_eq_true (by omega)), h4, Option.bind_some, show idx (lnRow a b 0) 0 = (lnRow a b 0)[0]? from idx_nat (k := 0), h0]
 rfl
def prs (a b : List Pt) : Nat → Nat → Nat → List Pair
 | 0, _, _ => []
 | n + 1, i, k => match a[i]?, b[k]? with
  | some x, some y => if x = y then ⟨(i : Int), (k : Int)⟩ :: prs a b n (i + 1) (k + 1) else if mLong (a.drop i) (b.drop (k + 1)) ≤ mLong (a.drop (i + 1)) (b.drop k) then prs a b n (i + 1) k else prs a b n i (k + 1)
  | _, _ => []
def mPairs (a b : List Pt) : List Pair := prs a b (a.length + b.length) 0 0
theorem prs_end {a b : List Pt} {n i k : Nat} (h : a.length ≤ i ∨ b.length ≤ k) : prs a b n i k = [] := by
 cases n with
 | zero => rfl
 | succ n =>
  rcases h with h | h
  ·simp only [prs, List.getElem?_eq_none h]
  ·simp only [prs, List.getElem?_eq_none h]
   cases a[i]? <;> rfl
theorem i_prs {a b : List Pt} (ha : a.length ≤ 12) (hb : b.length ≤ 12) : ∀ (n N i k : Nat) (acc : List Pair), n < N → a.length + b.length ≤ n + i + k → i ≤ a.length → k ≤ b.length → acc.length ≤ i → gl_as9_1 a b (lens a b) N (i : Int) (k : Int) acc = some (acc ++ prs a b n i k)
 | n, N + 1, i, k, acc, hN, hn, hi, hk, hacc => by
  simp only [gl_as9_1]
  by_cases h1 : i < a.length
  case neg =>
   rw [if_neg (by simp; omega), prs_end (.inl (by omega)), List.append_nil]
  by_cases h2 : k < b.length
  case neg =>
   rw [if_pos (decide_eq_true (by omega)), if_neg (by simp; omega), prs_end (.inr (by omega)), List.append_nil]
  have hx := List.getElem?_eq_getElem h1
  have hy := List.getElem?_eq_getElem h2
  have e1 : IntKind.i64.wrap ((i : Int) + 1) = ((i + 1 : Nat) : Int) := by rw [wr1 (by omega) (by omega)]; omega
  have e2 : IntKind.i64.wrap ((k : Int) + 1) = ((k + 1 : Nat) : Int) := by rw [wr1 (by omega) (by omega)]; omega
  obtain ⟨n, rfl⟩ : ∃ m, n = m + 1 := ⟨n - 1, by omega⟩
  rw [if_pos (decide_eq_true (by omega)), if_pos (decide_eq_true (by omega)), idx_nat, hx, Option.bind_some, idx_nat, hy, Option.bind_some, ptb, e1, e2]
  simp only [prs, hx, hy]
  by_cases he : a[i] = b[k]
  ·rw [if_pos (decide_eq_true he), if_pos he, if_pos (fits_small (by simp; omega)), i_prs ha hb n N (i + 1) (k + 1) _ (by omega) (by omega) (by omega) (by omega) (by simp; omega)]
   simp
  ·rw [if_neg (by simp [he]), if_neg he, idx_nat, lens_get (by omega), Option.bind_some, idx_nat, row_get (by omega), Option.bind_some, idx_nat, lens_get (by omega), Option.bind_some, idx_nat, row_get (by omega), Option.bind_some]
   by_cases hg : mLong (a.drop i) (b.drop (k + 1)) ≤ mLong (a.drop (i + 1)) (b.drop k)
   ·rw [if_pos (decide_eq_true hg), if_pos hg]
    exact i_prs ha hb n N (i + 1) k acc (by omega) (by omega) (by omega) (by omega) (by omega)
   ·rw [if_neg (by simpa using hg), if_neg hg]
    exact i_prs ha hb n N i (k + 1) acc (by omega) (by omega) (by omega) (by omega) (by omega)
theorem slc_end {α : Type} {xs : List α} {i : Nat} (h : i ≤ xs.length) : slc xs (i : Int) (xs.length : Int) = some (xs.drop i) := by
 unfold slc
 rw [if_pos ⟨by omega, by omega, by omega⟩]
 simp
theorem slc_at {α : Type} {xs : List α} {i j : Nat} (h : i ≤ j) (hj : j ≤ xs.length) : slc xs (i : Int) (j : Int) = some ((xs.take j).drop i) := by
 unfold slc
 rw [if_pos ⟨by omega, by omega, by omega⟩]
 simp
theorem s_l5Few {a b : List Pt} : gf_fv9 a b = some (decide (a.length ≤ 12) && decide (b.length ≤ 12)) := by
 unfold gf_fv9
 rw [show decide ((a.length : Int) ≤ 12) = decide (a.length ≤ 12) from decI, show decide ((b.length : Int) ≤ 12) = decide (b.length ≤ 12) from decI]
 by_cases h : a.length ≤ 12 <;> simp [h]
theorem s_prs {a b : List Pt} (ha : a.length ≤ 12) (hb : b.length ≤ 12) : ∀ (n N i k : Nat) (acc : List Pair), n < N → a.length + b.length ≤ n + i + k → i ≤ a.length → k ≤ b.length → acc.length ≤ i → gl_ey9_1 a b N (i : Int) (k : Int) acc = some (acc ++ prs a b n i k)
 | n, N + 1, i, k, acc, hN, hn, hi, hk, hacc => by
  simp only [gl_ey9_1]
  by_cases h1 : i < a.length
  case neg =>
   rw [if_neg (by simp; omega), prs_end (.inl (by omega)), List.append_nil]
  by_cases h2 : k < b.length
  case neg =>
   rw [if_pos (decide_eq_true (by omega)), if_neg (by simp; omega), prs_end (.inr (by omega)), List.append_nil]
  have hx := List.getElem?_eq_getElem h1
  have hy := List.getElem?_eq_getElem h2
  have e1 : IntKind.i64.wrap ((i : Int) + 1) = ((i + 1 : Nat) : Int) := by rw [wr1 (by omega) (by omega)]; omega
  have e2 : IntKind.i64.wrap ((k : Int) + 1) = ((k + 1 : Nat) : Int) := by rw [wr1 (by omega) (by omega)]; omega
  obtain ⟨n, rfl⟩ : ∃ m, n = m + 1 := ⟨n - 1, by omega⟩
  rw [if_pos (decide_eq_true (by omega)), if_pos (decide_eq_true (by omega)), s_l5Few, Option.bind_some, if_pos (by simp [ha, hb]), idx_nat, hx, Option.bind_some, idx_nat, hy, Option.bind_some, ptb, e1, e2]
  simp only [prs, hx, hy]
  by_cases he : a[i] = b[k]
  ·rw [if_pos (decide_eq_true he), if_pos he, if_pos (fits_small (by simp; omega)), s_prs ha hb n N (i + 1) (k + 1) _ (by omega) (by omega) (by omega) (by omega) (by simp; omega)]
   simp
  ·have d1 : ∀ i, (a.drop i).length ≤ 1000 := fun i => by rw [List.length_drop]; omega
   have d2 : ∀ i, (b.drop i).length ≤ 1000 := fun i => by rw [List.length_drop]; omega
   rw [if_neg (by simp [he]), if_neg he, slc_end (by omega), Option.bind_some, slc_end (by omega), Option.bind_some, s_l5Long (d1 _) (d2 _), Option.bind_some, slc_end (by omega), Option.bind_some, slc_end (by omega), Option.bind_some, s_l5Long (d1 _) (d2 _), Option.bind_some]
   by_cases hg : mLong (a.drop i) (b.drop (k + 1)) ≤ mLong (a.drop (i + 1)) (b.drop k)
   ·rw [if_pos (decide_eq_true hg), if_pos hg]
    exact s_prs ha hb n N (i + 1) k acc (by omega) (by omega) (by omega) (by omega) (by omega)
   ·rw [if_neg (by simpa using hg), if_neg hg]
    exact s_prs ha hb n N i (k + 1) acc (by omega) (by omega) (by omega) (by omega) (by omega)
theorem i_SeqPairs {a b : List Pt} (ha : a.length ≤ 12) (hb : b.length ≤ 12) : gf_as9 a b = some (mPairs a b) := by
 unfold gf_as9 gf_bd9
 rw [if_neg (by simp; omega), if_neg (by simp; omega)]
 have h : lensF a b = some (lens a b) := by
  unfold lensF
  rw [if_pos (by simp; omega)]
 have h2 := i_prs ha hb (a.length + b.length) rounds 0 0 [] (by unfold rounds; omega) (by omega) (by omega) (by omega) (by simp)
 rw [h, Option.bind_some]
 exact congrArg (fun o => Option.bind o fun q => some q) h2
theorem s_SeqPairs {a b : List Pt} (ha : a.length ≤ 12) (hb : b.length ≤ 12) : gf_ey9 a b = some (mPairs a b) := by
 unfold gf_ey9
 have h2 := s_prs ha hb (a.length + b.length) rounds 0 0 [] (by unfold rounds; omega) (by omega) (by omega) (by omega) (by simp)
 exact congrArg (fun o => Option.bind o fun q => some q) h2
def prt (p : List Pair) (i : Nat) : Option Nat := (p.find? fun q => decide (q.a = (i : Int))).map fun q => q.b.toNat
def pick (o a b : List Pt) : Option (List Pt) := if a = o then some b else if b = o then some a else if a = b then some a else none
def cutL (l : List Pt) (i j : Nat) : List Pt := (l.take j).drop i
def mg (o a b : List Pt) (pa pb : List Pair) : Nat → Nat → Nat → Nat → Nat → List Pt → Option (List Pt)
 | 0, at_, i, j, k, out => (pick (cutL o i at_) (a.drop j) (b.drop k)).map fun p => out ++ p
 | n + 1, at_, i, j, k, out => match prt pa at_, prt pb at_ with
  | some x, some y => (pick (cutL o i at_) (cutL a j x) (cutL b k y)).bind fun p => mg o a b pa pb n (at_ + 1) (at_ + 1) (x + 1) (y + 1) (out ++ p ++ (o[at_]?).toList)
  | _, _ => mg o a b pa pb n (at_ + 1) i j k out
def mMerge (o a b : List Pt) : Option (List Pt) := mg o a b (mPairs o a) (mPairs o b) o.length 0 0 0 0 []
theorem prs_in {a b : List Pt} : ∀ (n i k : Nat) (q : Pair), q ∈ prs a b n i k → ∃ u v : Nat, q = ⟨(u : Int), (v : Int)⟩ ∧ i ≤ u ∧ u < a.length ∧ k ≤ v ∧ v < b.length
 | 0, i, k, q, h => by simp [prs] at h
 | n + 1, i, k, q, h => by
  simp only [prs] at h
  split at h
  ·rename_i x y hx hy
   have h1 := (List.getElem?_eq_some_iff.1 hx).1
   have h2 := (List.getElem?_eq_some_iff.1 hy).1
   split at h
   ·rcases List.mem_cons.1 h with rfl | h
    ·exact ⟨i, k, rfl, Nat.le_refl _, h1, Nat.le_refl _, h2⟩
    ·obtain ⟨u, v, e, g1, g2, g3, g4⟩ := prs_in n _ _ q h
     exact ⟨u, v, e, by omega, g2, by omega, g4⟩
   ·split at h
    ·obtain ⟨u, v, e, g1, g2, g3, g4⟩ := prs_in n _ _ q h
     exact ⟨u, v, e, by omega, g2, by omega, g4⟩
    ·obtain ⟨u, v, e, g1, g2, g3, g4⟩ := prs_in n _ _ q h
     exact ⟨u, v, e, by omega, g2, by omega, g4⟩
  ·simp at h
def UpP (p : List Pair) : Prop := p.Pairwise fun q r => q.a < r.a ∧ q.b < r.b
theorem prs_up {a b : List Pt} : ∀ (n i k : Nat), UpP (prs a b n i k)
 | 0, i, k => .nil
 | n + 1, i, k => by
  simp only [prs]
  split
  ·split
   ·refine List.Pairwise.cons (fun q hq => ?_) (prs_up n _ _)
    obtain ⟨u, v, rfl, g1, g2, g3, g4⟩ := prs_in n _ _ q hq
    simp only
    omega
   ·split <;> exact prs_up n _ _
  ·exact .nil
structure OkP (p : List Pair) (n : Nat) : Prop where
 up : UpP p
 rg : ∀ q, q ∈ p → 0 ≤ q.a ∧ 0 ≤ q.b ∧ q.b < n
theorem okP_mPairs (a b : List Pt) : OkP (mPairs a b) b.length := ⟨prs_up _ _ _, fun q hq => by
 obtain ⟨u, v, rfl, g1, g2, g3, g4⟩ := prs_in _ _ _ q hq
 simp only
 omega⟩
theorem mPairs_len {a b : List Pt} (ha : a.length ≤ 12) : (mPairs a b).length ≤ 12 := by
 have : ∀ n i k, i ≤ a.length → (prs a b n i k).length ≤ a.length - i := by
  intro n
  induction n with
  | zero => intro i k h; simp [prs]
  | succ n ih =>
   intro i k h
   simp only [prs]
   split
   ·rename_i x y hx hy
    have h1 := (List.getElem?_eq_some_iff.1 hx).1
    split
    ·have := ih (i + 1) (k + 1) (by omega)
     simp only [List.length_cons]
     omega
    ·split
     ·have := ih (i + 1) k (by omega)
      omega
     ·exact ih i (k + 1) h
   ·simp
 have := this (a.length + b.length) 0 0 (Nat.zero_le _)
 unfold mPairs
 omega
theorem up_uniq : ∀ {p : List Pair} {q r : Pair}, UpP p → q ∈ p → r ∈ p → q.a < r.a → q.b < r.b
 | [], q, r, h, hq, hr, e => by simp at hq
 | x :: p, q, r, h, hq, hr, e => by
  obtain ⟨h1, h2⟩ := List.pairwise_cons.1 h
  rcases List.mem_cons.1 hq with hq1 | hq1 <;> rcases List.mem_cons.1 hr with hr1 | hr1
  ·rw [hq1, hr1] at e; omega
  ·rw [hq1]; exact (h1 r hr1).2
  ·rw [hr1] at e; have := (h1 q hq1).1; omega
  ·exact up_uniq h2 hq1 hr1 e
theorem prt_some {p : List Pair} {n i v : Nat} (h : OkP p n) (hv : prt p i = some v) : v < n ∧ ∃ q, q ∈ p ∧ q.a = (i : Int) ∧ q.b = (v : Int) := by
 unfold prt at hv
 cases hf : p.find? fun q => decide (q.a = (i : Int)) with
 | none => rw [hf] at hv; cases hv
 | some q =>
  rw [hf] at hv
  simp only [Option.map_some, Option.some.injEq] at hv
  have hm := List.mem_of_find?_eq_some hf
  have ha : q.a = (i : Int) := by simpa using List.find?_some hf
  have hr := h.rg q hm
  exact ⟨by omega, q, hm, ha, by omega⟩
def Bh (p : List Pair) (at_ j : Nat) : Prop := ∀ q, q ∈ p → (at_ : Int) ≤ q.a → (j : Int) ≤ q.b
theorem Bh.skip {p : List Pair} {at_ j : Nat} (h : Bh p at_ j) : Bh p (at_ + 1) j := fun q hq h2 => h q hq (by omega)
theorem Bh.hit {p : List Pair} {n at_ v : Nat} (h : OkP p n) (hv : prt p at_ = some v) : Bh p (at_ + 1) (v + 1) := fun q hq h2 => by
 obtain ⟨_, r, hr, e1, e2⟩ := prt_some h hv
 have := up_uniq h.up hr hq (by omega)
 omega
theorem Bh.le {p : List Pair} {n at_ j v : Nat} (hb : Bh p at_ j) (h : OkP p n) (hv : prt p at_ = some v) : j ≤ v := by
 obtain ⟨_, r, hr, e1, e2⟩ := prt_some h hv
 have := hb r hr (by omega)
 omega
def prtI (p : List Pair) (i : Nat) : Int := match prt p i with
 | some v => (v : Int)
 | none => -1
theorem prtI_cons {x : Pair} {l : List Pair} {i : Nat} (hx : 0 ≤ x.b) : prtI (x :: l) i = if (x.a == (i : Int)) = true then x.b else prtI l i := by
 unfold prtI prt
 by_cases e : x.a = (i : Int)
 ·rw [List.find?_cons_of_pos (by simpa using e), if_pos (by simpa using e)]
  simp only [Option.map_some]
  omega
 ·rw [List.find?_cons_of_neg (by simpa using e), if_neg (by simpa using e)]
theorem i_partner {p : List Pair} {i n : Nat} (h : OkP p n) (hl : p.length ≤ 1048576) : gf_bl9 p (i : Int) = some (prtI p i) := by
 unfold gf_bl9
 rw [if_pos (fits_small hl)]
 have key : ∀ (l : List Pair) (k : Nat), (∀ q, q ∈ l → 0 ≤ q.b) → ((gl_bl9_1 (i : Int) l k).bind fun q => match q with | .inl r => some r | .inr q11 => some (-1)) = some (prtI l i) := by
  intro l
  induction l with
  | nil => intro k _; rfl
  | cons x l ih =>
   intro k hq
   simp only [gl_bl9_1]
   rw [prtI_cons (hq x (by simp))]
   by_cases e : (x.a == (i : Int)) = true
   ·rw [if_pos e, if_pos e]; rfl
   ·rw [if_neg e, if_neg e]
    exact ih (k + 1) fun q h => hq q (by simp [h])
 exact key p 0 fun q hq => (h.rg q hq).2.1
theorem s_l5At {p : List Pair} {i n : Nat} (h : OkP p n) (hl : p.length ≤ 1048576) : gf_fu9 p (i : Int) = some (prtI p i) := by
 unfold gf_fu9
 rw [if_pos (fits_small hl)]
 have key : ∀ (l : List Pair) (k : Nat), (∀ q, q ∈ l → 0 ≤ q.b) → ((gl_fu9_1 (i : Int) l k).bind fun q => match q with | .inl r => some r | .inr q8 => some (-1)) = some (prtI l i) := by
  intro l
  induction l with
  | nil => intro k _; rfl
  | cons x l ih =>
   intro k hq
   simp only [gl_fu9_1]
   rw [prtI_cons (hq x (by simp))]
   by_cases e : (x.a == (i : Int)) = true
   ·rw [if_pos e, if_pos e]; rfl
   ·rw [if_neg e, if_neg e]
    exact ih (k + 1) fun q h => hq q (by simp [h])
 exact key p 0 fun q hq => (h.rg q hq).2.1
def pickR (o a b : List Pt) : List Pt × Bool := match pick o a b with
 | some p => (p, true)
 | none => ([], false)
theorem s_l5Pick {o a b : List Pt} (ha : a.length ≤ 1048576) (hb : b.length ≤ 1048576) : gf_fy9 o a b = some (pickR o a b) := by
 unfold gf_fy9 pickR pick
 rw [s_l1Same ha, Option.bind_some]
 by_cases h1 : a = o
 ·rw [if_pos (decide_eq_true h1), if_pos h1]
 ·rw [if_neg (by simp [h1]), if_neg h1, s_l1Same hb, Option.bind_some]
  by_cases h2 : b = o
  ·rw [if_pos (decide_eq_true h2), if_pos h2]
  ·rw [if_neg (by simp [h2]), if_neg h2, s_l1Same ha, Option.bind_some]
   by_cases h3 : a = b
   ·rw [if_pos (decide_eq_true h3), if_pos h3]
   ·rw [if_neg (by simp [h3]), if_neg h3]
theorem i_pick {o a b out : List Pt} (ha : a.length ≤ 12) (hb : b.length ≤ 12) (ho : out.length ≤ 1000) : ((gf_ec9 a o).bind fun x778 => if x778 = true then (if fits (out ++ b).length = true then some (.inr (out ++ b)) else none) else ((gf_ec9 b o).bind fun x783 => if x783 = true then (if fits (out ++ a).length = true then some (.inr (out ++ a)) else none) else ((gf_ec9 a b).bind fun x785 => if x785 = true then (if fits (out ++ a).length = true then some (.inr (out ++ a)) else none) else (some (.inl (([] : (List Pt)), false))))) : Option (((List Pt) × Bool) ⊕ (List Pt))) =
  some (match pick o a b with | some p => .inr (out ++ p) | none => .inl ([], false)) := by
 unfold pick
 rw [i_EqPt (by omega), Option.bind_some]
 by_cases h1 : a = o
 ·rw [if_pos (decide_eq_true h1), if_pos h1, if_pos (fits_small (by simp; omega))]
 ·rw [if_neg (by simp [h1]), if_neg h1, i_EqPt (by omega), Option.bind_some]
  by_cases h2 : b = o
  ·rw [if_pos (decide_eq_true h2), if_pos h2, if_pos (fits_small (by simp; omega))]
  ·rw [if_neg (by simp [h2]), if_neg h2, i_EqPt (by omega), Option.bind_some]
   by_cases h3 : a = b
   ·rw [if_pos (decide_eq_true h3), if_pos h3, if_pos (fits_small (by simp; omega))]
   ·rw [if_neg (by simp [h3]), if_neg h3]
def mgR (r : Option (List Pt)) : (List Pt × Bool) ⊕ List Pt := match r with
 | some p => .inr p
 | none => .inl ([], false)
theorem cutL_len {l : List Pt} {i j : Nat} (h : l.length ≤ 12) : (cutL l i j).length ≤ 12 := by
 unfold cutL
 rw [List.length_drop, List.length_take]
 omega
theorem pick_len {o a b p : List Pt} (ha : a.length ≤ 12) (hb : b.length ≤ 12) (h : pick o a b = some p) : p.length ≤ 12 := by
 unfold pick at h
 split at h
 ·cases h; exact hb
 ·split at h
  ·cases h; exact ha
  ·split at h
   ·cases h; exact ha
   ·cases h
section
variable {o a b : List Pt} {pa pb : List Pair}
theorem i_mg (ho : o.length ≤ 12) (ha : a.length ≤ 12) (hb : b.length ≤ 12) (hpa : OkP pa a.length) (hpb : OkP pb b.length) (la : pa.length ≤ 12) (lb : pb.length ≤ 12) : ∀ (n N at_ i j k : Nat) (out : List Pt), n + 1 < N → n + at_ = o.length → i ≤ at_ → j ≤ a.length → k ≤ b.length → Bh pa at_ j → Bh pb at_ k → out.length ≤ 13 * at_ →
  gl_ar9_1 o pa pb a b N (i : Int) (j : Int) (k : Int) (at_ : Int) out = some (mgR (mg o a b pa pb n at_ i j k out))
 | 0, N + 2, at_, i, j, k, out, hN, hn, hi, hj, hk, ba, bb, hout => by
  simp only [gl_ar9_1]
  rw [if_pos (decide_eq_true (by omega)), if_neg (by simp; omega), slc_at hi (by omega), Option.bind_some, slc_end hj, Option.bind_some, slc_end hk, Option.bind_some, i_pick (by rw [List.length_drop]; omega) (by rw [List.length_drop]; omega) (by omega), Option.bind_some]
  simp only [mg]
  unfold cutL
  cases hp : pick ((o.take at_).drop i) (a.drop j) (b.drop k) with
  | none => rfl
  | some p =>
   simp only
   rw [if_neg (by simp; omega)]
   simp only [Option.bind_some]
   rw [show IntKind.i64.wrap ((at_ : Int) + 1) = ((at_ + 1 : Nat) : Int) by rw [wr1 (by omega) (by omega)]; omega, if_neg (by simp; omega)]
   rfl
 | n + 1, N + 1, at_, i, j, k, out, hN, hn, hi, hj, hk, ba, bb, hout => by
  have ew : IntKind.i64.wrap ((at_ : Int) + 1) = ((at_ + 1 : Nat) : Int) := by rw [wr1 (by omega) (by omega)]; omega
  simp only [gl_ar9_1]
  rw [if_pos (decide_eq_true (by omega)), if_pos (decide_eq_true (by omega)), i_partner hpa (by omega), Option.bind_some, i_partner hpb (by omega), Option.bind_some]
  simp only [mg]
  unfold prtI
  cases hx : prt pa at_ with
  | none =>
   simp only
   rw [if_pos (by decide)]
   simp only [Option.bind_some, ew]
   exact i_mg ho ha hb hpa hpb la lb n N _ _ _ _ _ (by omega) (by omega) (by omega) hj hk ba.skip bb.skip (by omega)
  | some x =>
   cases hy : prt pb at_ with
   | none =>
    simp only
    rw [if_neg (by simp), if_pos (by decide)]
    simp only [Option.bind_some, ew]
    exact i_mg ho ha hb hpa hpb la lb n N _ _ _ _ _ (by omega) (by omega) (by omega) hj hk ba.skip bb.skip (by omega)
   | some y =>
    have x1 := (prt_some hpa hx).1
    have y1 := (prt_some hpb hy).1
    have x2 := ba.le hpa hx
    have y2 := bb.le hpb hy
    have ho1 := List.getElem?_eq_getElem (show at_ < o.length by omega)
    simp only
    rw [if_neg (by simp), if_neg (by simp), slc_at hi (by omega), Option.bind_some, slc_at x2 (by omega), Option.bind_some, slc_at y2 (by omega), Option.bind_some, i_pick (o := (o.take at_).drop i) (a := (a.take x).drop j) (b := (b.take y).drop k) (cutL_len ha) (cutL_len hb) (by omega), Option.bind_some]
    show _ = some (mgR ((pick (cutL o i at_) (cutL a j x) (cutL b k y)).bind _))
    unfold cutL
    cases hp : pick ((o.take at_).drop i) ((a.take x).drop j) ((b.take y).drop k) with
    | none => rfl
    | some p =>
     have hpl := pick_len (cutL_len (i := j) (j := x) ha) (cutL_len (i := k) (j := y) hb) hp
     simp only
     rw [if_pos (decide_eq_true (by omega)), idx_nat, ho1, Option.bind_some, if_pos (fits_small (by simp; omega))]
     simp only [Option.bind_some, ew, ho1, Option.toList_some]
     rw [show IntKind.i64.wrap ((x : Int) + 1) = ((x + 1 : Nat) : Int) by rw [wr1 (by omega) (by omega)]; omega, show IntKind.i64.wrap ((y : Int) + 1) = ((y + 1 : Nat) : Int) by rw [wr1 (by omega) (by omega)]; omega]
     exact i_mg ho ha hb hpa hpb la lb n N _ _ _ _ _ (by omega) (by omega) (by omega) (by omega) (by omega) (Bh.hit hpa hx) (Bh.hit hpb hy) (by simp; omega)
theorem s_mg (ho : o.length ≤ 12) (ha : a.length ≤ 12) (hb : b.length ≤ 12) (hpa : OkP pa a.length) (hpb : OkP pb b.length) (la : pa.length ≤ 12) (lb : pb.length ≤ 12) : ∀ (n N at_ i j k : Nat) (out : List Pt), n + 1 < N → n + at_ = o.length → i ≤ at_ → j ≤ a.length → k ≤ b.length → Bh pa at_ j → Bh pb at_ k → out.length ≤ 13 * at_ →
  gl_fx9_1 o pa pb a b N (i : Int) (j : Int) (k : Int) (at_ : Int) out = some (mgR (mg o a b pa pb n at_ i j k out))
 | 0, N + 2, at_, i, j, k, out, hN, hn, hi, hj, hk, ba, bb, hout => by
  simp only [gl_fx9_1]
  rw [if_pos (decide_eq_true (by omega)), if_neg (by simp; omega), slc_at hi (by omega), Option.bind_some, slc_end hj, Option.bind_some, slc_end hk, Option.bind_some, s_l5Pick (by rw [List.length_drop]; omega) (by rw [List.length_drop]; omega), Option.bind_some]
  simp only [mg]
  unfold cutL pickR
  cases hp : pick ((o.take at_).drop i) (a.drop j) (b.drop k) with
  | none => rfl
  | some p =>
   have hpl := pick_len (by rw [List.length_drop]; omega) (by rw [List.length_drop]; omega) hp
   simp only
   rw [if_neg (by decide), if_pos (fits_small (by simp; omega)), if_neg (by simp; omega)]
   simp only [Option.bind_some]
   rw [show IntKind.i64.wrap ((at_ : Int) + 1) = ((at_ + 1 : Nat) : Int) by rw [wr1 (by omega) (by omega)]; omega, if_neg (by simp; omega)]
   rfl
 | n + 1, N + 1, at_, i, j, k, out, hN, hn, hi, hj, hk, ba, bb, hout => by
  have ew : IntKind.i64.wrap ((at_ : Int) + 1) = ((at_ + 1 : Nat) : Int) := by rw [wr1 (by omega) (by omega)]; omega
  simp only [gl_fx9_1]
  rw [if_pos (decide_eq_true (by omega)), if_pos (decide_eq_true (by omega)), s_l5At hpa (by omega), Option.bind_some, s_l5At hpb (by omega), Option.bind_some]
  simp only [mg]
  unfold prtI
  cases hx : prt pa at_ with
  | none =>
   simp only
   rw [if_pos (by decide)]
   simp only [Option.bind_some, ew]
   exact s_mg ho ha hb hpa hpb la lb n N _ _ _ _ _ (by omega) (by omega) (by omega) hj hk ba.skip bb.skip (by omega)
  | some x =>
   cases hy : prt pb at_ with
   | none =>
    simp only
    rw [if_neg (by simp), if_pos (by decide)]
    simp only [Option.bind_some, ew]
    exact s_mg ho ha hb hpa hpb la lb n N _ _ _ _ _ (by omega) (by omega) (by omega) hj hk ba.skip bb.skip (by omega)
   | some y =>
    have x1 := (prt_some hpa hx).1
    have y1 := (prt_some hpb hy).1
    have x2 := ba.le hpa hx
    have y2 := bb.le hpb hy
    have ho1 := List.getElem?_eq_getElem (show at_ < o.length by omega)
    simp only
    rw [if_neg (by simp), if_neg (by simp), slc_at hi (by omega), Option.bind_some, slc_at x2 (by omega), Option.bind_some, slc_at y2 (by omega), Option.bind_some, s_l5Pick (o := (o.take at_).drop i) (a := (a.take x).drop j) (b := (b.take y).drop k) (by have := cutL_len (i := j) (j := x) ha; unfold cutL at this; omega) (by have := cutL_len (i := k) (j := y) hb; unfold cutL at this; omega), Option.bind_some]
    show _ = some (mgR ((pick (cutL o i at_) (cutL a j x) (cutL b k y)).bind _))
    unfold cutL pickR
    cases hp : pick ((o.take at_).drop i) ((a.take x).drop j) ((b.take y).drop k) with
    | none => rfl
    | some p =>
     have hpl := pick_len (cutL_len (i := j) (j := x) ha) (cutL_len (i := k) (j := y) hb) hp
     simp only
     rw [if_neg (by decide), if_pos (fits_small (by simp; omega)), if_pos (decide_eq_true (by omega)), idx_nat, ho1, Option.bind_some, if_pos (fits_small (by simp; omega))]
     simp only [Option.bind_some, ew, ho1, Option.toList_some]
     rw [show IntKind.i64.wrap ((x : Int) + 1) = ((x + 1 : Nat) : Int) by rw [wr1 (by omega) (by omega)]; omega, show IntKind.i64.wrap ((y : Int) + 1) = ((y + 1 : Nat) : Int) by rw [wr1 (by omega) (by omega)]; omega]
     exact s_mg ho ha hb hpa hpb la lb n N _ _ _ _ _ (by omega) (by omega) (by omega) (by omega) (by omega) (Bh.hit hpa hx) (Bh.hit hpb hy) (by simp; omega)
end
def mMergeR (o a b : List Pt) : List Pt × Bool := match mMerge o a b with
 | some p => (p, true)
 | none => ([], false)
theorem i_SeqMerge {o a b : List Pt} (ho : o.length ≤ 12) (ha : a.length ≤ 12) (hb : b.length ≤ 12) : gf_ar9 o a b = some (mMergeR o a b) := by
 unfold gf_ar9 mMergeR mMerge
 have h := i_mg ho ha hb (okP_mPairs o a) (okP_mPairs o b) (mPairs_len ho) (mPairs_len ho) o.length rounds 0 0 0 0 [] (by unfold rounds; omega) (by omega) (by omega) (by omega) (by omega) (fun q hq _ => (okP_mPairs o a).rg q hq |>.2.1) (fun q hq _ => (okP_mPairs o b).rg q hq |>.2.1) (by simp)
 rw [if_neg (by simp; omega), if_neg (by simp; omega), if_neg (by simp; omega), i_SeqPairs ho ha, Option.bind_some, i_SeqPairs ho hb, Option.bind_some]
 refine (congrArg (fun z => Option.bind z _) h).trans ?_
 cases mg o a b (mPairs o a) (mPairs o b) o.length 0 0 0 0 [] <;> rfl
theorem s_l5Merge {o a b : List Pt} (ho : o.length ≤ 12) (ha : a.length ≤ 12) (hb : b.length ≤ 12) : gf_fx9 o a b = some (mMergeR o a b) := by
 unfold gf_fx9 mMergeR mMerge
 have h := s_mg ho ha hb (okP_mPairs o a) (okP_mPairs o b) (mPairs_len ho) (mPairs_len ho) o.length rounds 0 0 0 0 [] (by unfold rounds; omega) (by omega) (by omega) (by omega) (by omega) (fun q hq _ => (okP_mPairs o a).rg q hq |>.2.1) (fun q hq _ => (okP_mPairs o b).rg q hq |>.2.1) (by simp)
 rw [s_SeqPairs ho ha, Option.bind_some, s_SeqPairs ho hb, Option.bind_some]
 refine (congrArg (fun z => Option.bind z _) h).trans ?_
 cases mg o a b (mPairs o a) (mPairs o b) o.length 0 0 0 0 [] <;> rfl
def mVal (ts : List Tag) (k : Str) : Val := match ts.find? (fun t : Tag => decide (t.key = k)) with
 | some t => ⟨true, t.val⟩
 | none => ⟨false, ⟨#[]⟩⟩
theorem mVal_no {ts : List Tag} {k : Str} (h : (mVal ts k).has = false) : (mVal ts k).val = ⟨#[]⟩ := by
 unfold mVal at h ⊢
 split at h
 ·cases h
 ·rfl
theorem i_valueOf {f : Feat} {k : Str} (hl : f.tags.length ≤ 1048576) : gf_br9 f k = some (mVal f.tags k) := by
 have h1 : gf_ae9 f k = some (fstFrom (fun t : Tag => decide (t.key = k)) f.tags 0) := by
  unfold gf_ae9 gf_en9
  have h := loopF (gl := gl_en9_1 k) (p := fun t : Tag => decide (t.key = k)) (ok := fun _ => True) (fun _ => rfl) (fun x l j _ => by simp only [gl_en9_1, gf_af9, Option.bind_some, seq_dec]) f.tags 0 (fun _ _ => trivial)
  rw [if_pos (fits_small hl)]
  exact (congrArg (fun o => Option.bind o fun x3 => some x3) h)
 unfold gf_br9 mVal
 rw [h1, Option.bind_some]
 rcases fst_find (p := fun t : Tag => decide (t.key = k)) f.tags 0 with ⟨h1, h2⟩ | ⟨j, x, h1, h2, h3, h4⟩
 ·rw [h1, h2]; rfl
 ·rw [h1, h2, if_neg (by simp), idx_nat, Nat.zero_add, h3, Option.bind_some]
theorem s_l2Get {ts : List Tag} {k : Str} (hl : ts.length ≤ 1048576) : gf_fl9 ts k = some ((mVal ts k).val, (mVal ts k).has) := by
 have key : ∀ (l : List Tag) (j : Nat), ((gl_fl9_1 k l j).bind fun q => match q with | .inl r => some r | .inr q8 => some ((⟨#[]⟩ : Str), false)) = some ((mVal l k).val, (mVal l k).has) := by
  intro l
  induction l with
  | nil => intro j; rfl
  | cons x l ih =>
   intro j
   simp only [gl_fl9_1, seq_dec]
   by_cases e : x.key = k
   ·rw [if_pos (decide_eq_true e)]
    unfold mVal
    rw [List.find?_cons_of_pos (by simpa using e)]
    rfl
   ·rw [if_neg (by simp [e])]
    have e2 : mVal (x :: l) k = mVal l k := by
     unfold mVal
     rw [List.find?_cons_of_neg (by simpa using e)]
    rw [e2]
    exact ih (j + 1)
 unfold gf_fl9
 rw [if_pos (fits_small hl)]
 exact key ts 0
def three {α : Type} [DecidableEq α] (o a b : α) : α × Bool := if a = o then (b, true) else if b = o then (a, true) else if a = b then (a, true) else (a, false)
theorem valb (x y : Val) : ((x.has == y.has) && ((x.val == y.val) && true)) = decide (x = y) := by
 obtain ⟨a, b⟩ := x; obtain ⟨c, d⟩ := y
 simp only [strB]
 by_cases h1 : a = c <;> by_cases h2 : b = d <;> simp [h1, h2]
theorem i_threeV {o a b : Val} : gf_bk9 o a b = some (three o a b) := by
 unfold gf_bk9 gf_ab9 three
 simp only [Option.bind_some, valb]
 by_cases h1 : a = o <;> by_cases h2 : b = o <;> by_cases h3 : a = b <;> simp [h1, h2, h3]
def mTag (o a b : Val) : Val × Bool := if (three o a b).2 = true then three o a b else (if a.has = true then a else b, false)
theorem s_l6Tag {o a b : List Tag} {k : Str} (ho : o.length ≤ 1048576) (ha : a.length ≤ 1048576) (hb : b.length ≤ 1048576) : gf_gf9 o a b k = some ((mTag (mVal o k) (mVal a k) (mVal b k)).1.val, (mTag (mVal o k) (mVal a k) (mVal b k)).1.has, (mTag (mVal o k) (mVal a k) (mVal b k)).2) := by
 unfold gf_gf9
 rw [s_l2Get ho, Option.bind_some, s_l2Get ha, Option.bind_some, s_l2Get hb, Option.bind_some]
 have na := mVal_no (ts := a) (k := k)
 have nb := mVal_no (ts := b) (k := k)
 generalize mVal o k = vo at *
 generalize mVal a k = va at *
 generalize mVal b k = vb at *
 obtain ⟨oh, ov⟩ := vo; obtain ⟨ah, av⟩ := va; obtain ⟨bh, bv⟩ := vb
 simp only [seq_dec] at *
 unfold mTag three
 simp only [Val.mk.injEq]
 by_cases h1 : av = ov
 ·subst h1
  by_cases h2 : bv = av
  ·subst h2
   cases oh <;> cases ah <;> cases bh <;> simp_all
  ·cases oh <;> cases ah <;> cases bh <;> simp_all [eq_comm]
 ·by_cases h2 : bv = ov
  ·subst h2
   cases oh <;> cases ah <;> cases bh <;> simp_all [eq_comm]
  ·by_cases h3 : av = bv
   ·subst h3
    cases oh <;> cases ah <;> cases bh <;> simp_all [eq_comm]
   ·cases oh <;> cases ah <;> cases bh <;> simp_all [eq_comm]
def mCutT (s : List Tag) (k : Str) : List Tag := s.filter fun y => !decide (y.key = k)
def mPutT (f : Tag) : List Tag → List Tag
 | [] => [f]
 | x :: l => if slt x.key f.key = true then x :: mPutT f l else f :: mCutT (x :: l) f.key
theorem mCutT_cons {x : Tag} {l : List Tag} {k : Str} : mCutT (x :: l) k = if x.key = k then mCutT l k else x :: mCutT l k := by
 unfold mCutT
 rw [List.filter_cons]
 by_cases h : x.key = k <;> simp [h]
theorem putT_done {f : Tag} : ∀ (l : List Tag) (k : Nat) (v : List Tag), v.length + l.length ≤ 1048576 → gl_fm9_1 f.key f.val l k true v = some (true, v ++ mCutT l f.key)
 | [], k, v, _ => by simp [gl_fm9_1, mCutT]
 | x :: l, k, v, h => by
  simp only [List.length_cons] at h
  simp only [gl_fm9_1, seq_dec, Bool.not_true, Bool.false_eq_true, if_false, Option.bind_some]
  rw [mCutT_cons]
  by_cases e : x.key = f.key
  ·rw [if_neg (by simp [e]), putT_done l (k + 1) v (by omega), if_pos e]
  ·rw [if_pos (by simp [e]), if_pos (fits_small (by simp; omega)), putT_done l (k + 1) _ (by simp; omega), if_neg e]
   simp
theorem putT_todo {f : Tag} : ∀ (l : List Tag) (k : Nat) (v : List Tag), v.length + l.length + 1 ≤ 1048576 → ∃ d o, gl_fm9_1 f.key f.val l k false v = some (d, o) ∧ (if d = true then o else o ++ [f]) = v ++ mPutT f l
 | [], k, v, _ => ⟨false, v, rfl, by simp [mPutT]⟩
 | x :: l, k, v, h => by
  simp only [List.length_cons] at h
  simp only [gl_fm9_1, seq_dec, Bool.not_false, if_true, mPutT]
  by_cases e : slt x.key f.key = true
  ·have hn := slt_ne e
   obtain ⟨d, o, h1, h2⟩ := putT_todo l (k + 1) (v ++ [x]) (by simp; omega)
   refine ⟨d, o, ?_, by rw [h2, if_pos e]; simp⟩
   rw [if_neg (by simp [e]), Option.bind_some]
   simp only
   rw [if_pos (by simp [hn]), if_pos (fits_small (by simp; omega)), h1]
  ·rw [if_pos (by simpa using e), if_pos (fits_small (by simp; omega)), Option.bind_some]
   simp only
   rw [if_neg e, mCutT_cons]
   by_cases e2 : x.key = f.key
   ·rw [if_neg (by simp [e2]), putT_done l (k + 1) _ (by simp; omega), if_pos e2]
    exact ⟨true, _, rfl, by simp⟩
   ·rw [if_pos (by simp [e2]), if_pos (fits_small (by simp; omega)), putT_done l (k + 1) _ (by simp; omega), if_neg e2]
    exact ⟨true, _, rfl, by simp⟩
theorem mPutT_len {f : Tag} : ∀ (l : List Tag), (mPutT f l).length ≤ l.length + 1
 | [] => by simp [mPutT]
 | x :: l => by
  have := mPutT_len (f := f) l
  have h2 : (mCutT (x :: l) f.key).length ≤ (x :: l).length := List.length_filter_le _ _
  unfold mPutT
  split
  ·simp only [List.length_cons]; omega
  ·simp only [List.length_cons] at h2 ⊢; omega
theorem s_l2Put {s : List Tag} {f : Tag} (h : s.length + 1 ≤ 1048576) : gf_fm9 s f.key f.val = some (mPutT f s) := by
 obtain ⟨d, o, h1, h2⟩ := putT_todo (f := f) s 0 [] (by simp; omega)
 have h3 := mPutT_len (f := f) s
 simp only [List.nil_append] at h2
 unfold gf_fm9
 rw [if_pos (fits_small (by omega)), h1, Option.bind_some]
 cases d
 ·simp only [Bool.not_false, if_true]
  simp only [Bool.false_eq_true, if_false] at h2
  rw [if_pos (fits_small (by rw [h2]; omega)), h2]
 ·simp only [if_true] at h2
  simp [h2]
theorem mPutT_mem {f : Tag} : ∀ {l : List Tag} {k : Str}, k ∈ (mPutT f l).map (·.key) ↔ k = f.key ∨ k ∈ l.map (·.key)
 | [], k => by simp [mPutT]
 | x :: l, k => by
  unfold mPutT
  split
  ·rw [List.map_cons, List.mem_cons, mPutT_mem, List.map_cons, List.mem_cons]
   constructor
   ·rintro (h | h | h)
    ·exact .inr (.inl h)
    ·exact .inl h
    ·exact .inr (.inr h)
   ·rintro (h | h | h)
    ·exact .inr (.inl h)
    ·exact .inl h
    ·exact .inr (.inr h)
  ·rw [List.map_cons, List.mem_cons]
   have e : k ∈ (mCutT (x :: l) f.key).map (·.key) ↔ k ≠ f.key ∧ k ∈ (x :: l).map (·.key) := by
    simp only [mCutT, List.mem_map, List.mem_filter, Bool.not_eq_true', decide_eq_false_iff_not]
    constructor
    ·rintro ⟨y, ⟨h1, h2⟩, rfl⟩
     exact ⟨h2, y, h1, rfl⟩
    ·rintro ⟨h2, y, h1, rfl⟩
     exact ⟨y, ⟨h1, h2⟩, rfl⟩
   rw [e]
   by_cases h : k = f.key
   ·simp [h]
   ·simp [h]
theorem cutT_sub {s : List Tag} {k : Str} : (mCutT s k).Sublist s := List.filter_sublist
theorem mPutT_pw {f : Tag} : ∀ {l : List Tag}, SPw (l.map (·.key)) → SPw ((mPutT f l).map (·.key))
 | [], _ => by simp [mPutT, SPw]
 | x :: l, h => by
  have h0 := h
  unfold SPw at h
  rw [List.map_cons, List.pairwise_cons] at h
  obtain ⟨h1, h2⟩ := h
  unfold mPutT
  split
  ·rename_i e
   unfold SPw
   rw [List.map_cons, List.pairwise_cons]
   refine ⟨fun k hk => ?_, mPutT_pw h2⟩
   rcases mPutT_mem.1 hk with rfl | hk
   ·exact e
   ·exact h1 k hk
  ·rename_i e
   unfold SPw
   rw [List.map_cons, List.pairwise_cons]
   refine ⟨fun k hk => ?_, List.Pairwise.sublist ((cutT_sub (s := x :: l)).map _) h0⟩
   obtain ⟨y, hy, rfl⟩ := List.mem_map.1 hk
   have hy2 := List.mem_filter.1 hy
   have hne : y.key ≠ f.key := by simpa using hy2.2
   have hfx : leS f.key x.key = true := by unfold leS; simpa using e
   rcases List.mem_cons.1 hy2.1 with rfl | hy3
   ·exact leS_lt hfx (fun e => hne e.symm)
   ·exact le_slt hfx (h1 _ (List.mem_map_of_mem hy3))
def mKeys (o a b : List Tag) : List Str := Go.Lib.compact (((o ++ a ++ b).map (·.key)).mergeSort leS)
theorem mKeys_pw {o a b : List Tag} : SPw (mKeys o a b) := comp_pw (List.pairwise_mergeSort leS_trans leS_total _)
theorem mKeys_mem {o a b : List Tag} {k : Str} : k ∈ mKeys o a b ↔ k ∈ o.map (·.key) ∨ k ∈ a.map (·.key) ∨ k ∈ b.map (·.key) := by
 unfold mKeys
 rw [comp_mem, (List.mergeSort_perm _ leS).mem_iff, List.map_append, List.map_append, List.mem_append, List.mem_append, or_assoc]
theorem s_l6Keys {o a b : List Tag} (h : o.length + a.length + b.length ≤ 1000) : gf_gc9 o a b = some (mKeys o a b) := by
 have k1 : ∀ (l : List Tag) (k : Nat) (v : List Tag), v.length + l.length ≤ 1000 → SPw (v.map (·.key)) → ∃ r, gl_gc9_1 l k v = some r ∧ SPw (r.map (·.key)) ∧ r.length ≤ v.length + l.length ∧ ∀ x, x ∈ r.map (·.key) ↔ x ∈ v.map (·.key) ∨ x ∈ l.map (·.key) := by
  intro l
  induction l with
  | nil => intro k v _ hv; exact ⟨v, rfl, hv, by simp, by simp⟩
  | cons t l ih =>
   intro k v h hv
   simp only [List.length_cons] at h
   have hp := mPutT_len (f := ⟨t.key, ⟨#[97]⟩⟩) v
   obtain ⟨r, h1, h2, h3, h4⟩ := ih (k + 1) (mPutT ⟨t.key, ⟨#[97]⟩⟩ v) (by omega) (mPutT_pw hv)
   refine ⟨r, ?_, h2, by simp only [List.length_cons]; omega, fun x => ?_⟩
   ·simp only [gl_gc9_1]
    rw [s_l2Put (s := v) (f := ⟨t.key, ⟨#[97]⟩⟩) (by omega), Option.bind_some, h1]
   ·rw [h4, mPutT_mem, List.map_cons, List.mem_cons]
    constructor
    ·rintro ((h | h) | h)
     ·exact .inr (.inl h)
     ·exact .inl h
     ·exact .inr (.inr h)
    ·rintro (h | h | h)
     ·exact .inl (.inr h)
     ·exact .inl (.inl h)
     ·exact .inr h
 have k2 : ∀ (l : List Tag) (k : Nat) (v : List Str), v.length + l.length ≤ 1000 → gl_gc9_2 l k v = some (v ++ l.map (·.key)) := by
  intro l
  induction l with
  | nil => intro k v _; simp [gl_gc9_2]
  | cons x l ih =>
   intro k v h
   simp only [List.length_cons] at h
   simp only [gl_gc9_2]
   rw [if_pos (fits_small (by simp; omega)), ih _ _ (by simp; omega)]
   simp
 obtain ⟨r, h1, h2, h3, h4⟩ := k1 (o ++ a ++ b) 0 [] (by simp; omega) (by simp [SPw])
 unfold gf_gc9
 simp only [List.nil_append]
 simp only [List.length_append, List.length_nil] at h3
 rw [if_pos (fits_small (by omega)), if_pos (fits_small (by simp; omega)), if_pos (fits_small (by simp; omega)), if_pos (fits_small (by simp; omega)), h1, Option.bind_some, if_pos (fits_small (by omega)), k2 r 0 [] (by simp; omega), Option.bind_some]
 congr 1
 refine spw_one (by simpa using h2) mKeys_pw fun x => ?_
 rw [mKeys_mem, List.nil_append, h4]
 simp [or_assoc]
def tagW : Str := ⟨#[116, 97, 103, 32]⟩
def mT (o a b : Feat) (k : Str) : Val × Bool := mTag (mVal o.tags k) (mVal a.tags k) (mVal b.tags k)
def wOf (o a b : Feat) (k : Str) : List Str := if (mT o a b k).2 = true then [] else [tagW ++ k]
def tOf (o a b : Feat) (k : Str) : List Tag := if (mT o a b k).1.has = true then [⟨k, (mT o a b k).1.val⟩] else []
structure FeatB (f : Feat) : Prop where
 id : f.id.size ≤ 7
 pts : f.shape.pts.length ≤ 6
 tags : f.tags.length ≤ 4
 key : ∀ t, t ∈ f.tags → t.key.size ≤ 7 ∧ t.val.size ≤ 7
 shape : mShape f.shape = true
theorem featB {f : Feat} (h : mFeat f = true) : FeatB f := by
 unfold mFeat mTags at h
 simp only [Bool.and_eq_true, decide_eq_true_eq] at h
 obtain ⟨h1, h2, h5, h6⟩ := h
 have h3 := h2
 unfold mShape at h3
 simp only [Bool.and_eq_true, decide_eq_true_eq] at h3
 refine ⟨mWord_size h1, h3.2.1, h6, fun t ht => ?_, h2⟩
 obtain ⟨j, hj⟩ := allF h5 ht
 simp only [Bool.and_eq_true] at hj
 exact ⟨mWord_size hj.1, mWord_size hj.2.1⟩
theorem mVal_size {ts : List Tag} {k : Str} (h : ∀ t, t ∈ ts → t.key.size ≤ 7 ∧ t.val.size ≤ 7) : (mVal ts k).val.size ≤ 7 := by
 unfold mVal
 split
 ·rename_i t e
  exact (h t (List.mem_of_find?_eq_some e)).2
 ·show (0 : Nat) ≤ 7
  omega
theorem three_val {α : Type} [DecidableEq α] {o a b : α} : (three o a b).1 = a ∨ (three o a b).1 = b := by
 unfold three
 split
 ·exact .inr rfl
 ·split
  ·exact .inl rfl
  ·split <;> exact .inl rfl
theorem mTag_val {o a b : Val} : (mTag o a b).1 = a ∨ (mTag o a b).1 = b := by
 unfold mTag
 split
 ·exact three_val
 ·split
  ·exact .inl rfl
  ·exact .inr rfl
section
variable {o a b : Feat}
theorem tOf_len (k : Str) : (tOf o a b k).length ≤ 1 := by
 unfold tOf
 split <;> simp
theorem wOf_len (k : Str) : (wOf o a b k).length ≤ 1 := by
 unfold wOf
 split <;> simp
theorem wf {k : Str} {p : Bool} (h : (mT o a b k).2 = p) : wOf o a b k = if p = true then [] else [tagW ++ k] := by
 unfold wOf
 rw [h]
theorem tf {k : Str} {p : Bool} (h : (mT o a b k).1.has = p) : tOf o a b k = if p = true then [⟨k, (mT o a b k).1.val⟩] else [] := by
 unfold tOf
 rw [h]
theorem flat1 {α β : Type} {f : α → List β} (h : ∀ x, (f x).length ≤ 1) : ∀ l : List α, (l.flatMap f).length ≤ l.length
 | [] => by simp
 | x :: l => by
  have h1 := h x
  have h2 := flat1 h l
  simp only [List.flatMap_cons, List.length_append, List.length_cons]
  omega
theorem cat_tag {k : Str} (h : k.size ≤ 1000) : cat (⟨#[116, 97, 103, 32]⟩ : Str) k = some (tagW ++ k) := by
 unfold cat
 rw [if_pos]
 ·rfl
 ·show 4 + k.size ≤ _
  omega
theorem s_l6loop (ho : FeatB o) (ha : FeatB a) (hb : FeatB b) : ∀ (l : List Str) (j : Nat) (w : List Str) (ts : List Tag), (∀ k, k ∈ l → k.size ≤ 7) → w.length + l.length ≤ 1000 → ts.length + l.length ≤ 1000 → gl_fz9_1 o a b l j w ts = some (w ++ l.flatMap (wOf o a b), ts ++ l.flatMap (tOf o a b))
 | [], j, w, ts, hk, hw, ht => by simp [gl_fz9_1]
 | k :: l, j, w, ts, hk, hw, ht => by
  have h1 := ho.tags; have h2 := ha.tags; have h3 := hb.tags
  have hks := hk k (by simp)
  simp only [List.length_cons] at hw ht
  have ih := fun w ts hw ht => s_l6loop ho ha hb l (j + 1) w ts (fun k h => hk k (by simp [h])) hw ht
  simp only [gl_fz9_1]
  rw [s_l6Tag (by omega) (by omega) (by omega), Option.bind_some, show mTag (mVal o.tags k) (mVal a.tags k) (mVal b.tags k) = mT o a b k from rfl, List.flatMap_cons, List.flatMap_cons]
  cases e1 : (mT o a b k).2 <;> cases e2 : (mT o a b k).1.has
  ·rw [if_pos (by simp), cat_tag (by omega), Option.bind_some, if_pos (fits_small (by simp; omega)), if_neg (by simp), ih _ _ (by simp; omega) (by omega)]
   rw [wf e1, tf e2]; simp
  ·rw [if_pos (by simp), cat_tag (by omega), Option.bind_some, if_pos (fits_small (by simp; omega)), if_pos (by simp), if_pos (fits_small (by simp; omega)), ih _ _ (by simp; omega) (by simp; omega)]
   rw [wf e1, tf e2]; simp
  ·rw [if_neg (by simp), if_neg (by simp), ih _ _ (by omega) (by omega)]
   rw [wf e1, tf e2]; simp
  ·rw [if_neg (by simp), if_pos (by simp), if_pos (fits_small (by simp; omega)), ih _ _ (by omega) (by simp; omega)]
   rw [wf e1, tf e2]; simp
theorem i_Fjloop (ho : FeatB o) (ha : FeatB a) (hb : FeatB b) : ∀ (l : List Str) (j : Nat) (w : List Str) (ts : List Tag), (∀ k, k ∈ l → k.size ≤ 7) → w.length + l.length ≤ 1000 → ts.length + l.length ≤ 1000 → gl_aa9_2 a b o l j w ts = some (w ++ l.flatMap (wOf o a b), ts ++ l.flatMap (tOf o a b))
 | [], j, w, ts, hk, hw, ht => by simp [gl_aa9_2]
 | k :: l, j, w, ts, hk, hw, ht => by
  have h1 := ho.tags; have h2 := ha.tags; have h3 := hb.tags
  have hks := hk k (by simp)
  simp only [List.length_cons] at hw ht
  have ih := fun w ts hw ht => i_Fjloop ho ha hb l (j + 1) w ts (fun k h => hk k (by simp [h])) hw ht
  simp only [gl_aa9_2]
  rw [i_valueOf (by omega), Option.bind_some, i_valueOf (by omega), Option.bind_some, i_valueOf (by omega), Option.bind_some, i_threeV, Option.bind_some, List.flatMap_cons, List.flatMap_cons]
  have e0 : mT o a b k = mTag (mVal o.tags k) (mVal a.tags k) (mVal b.tags k) := rfl
  have key : ((if (!(three (mVal o.tags k) (mVal a.tags k) (mVal b.tags k)).2) = true then ((cat (⟨#[116, 97, 103, 32]⟩ : Str) k).bind fun x292 => if fits (w ++ ([x292] : (List Str))).length = true then if (!(mVal a.tags k).has) = true then (some ((w ++ ([x292] : (List Str))), (mVal b.tags k).has, (mVal b.tags k).val)) else (some ((w ++ ([x292] : (List Str))), (mVal a.tags k).has, (mVal a.tags k).val)) else none) else (some (w, (three (mVal o.tags k) (mVal a.tags k) (mVal b.tags k)).1.has, (three (mVal o.tags k) (mVal a.tags k) (mVal b.tags k)).1.val)) : Option ((List Str) × Bool × Str))) = some (w ++ wOf o a b k, (mT o a b k).1.has, (mT o a b k).1.val) := by
   unfold wOf
   rw [e0]
   unfold mTag
   cases e1 : (three (mVal o.tags k) (mVal a.tags k) (mVal b.tags k)).2
   ·rw [if_pos (by simp), cat_tag (by omega), Option.bind_some, if_pos (fits_small (by simp; omega))]
    cases e2 : (mVal a.tags k).has <;> simp [e2]
   ·simp [e1]
  refine (congrArg (fun z => Option.bind z _) key).trans ?_
  simp only [Option.bind_some]
  have hwl := wOf_len (o := o) (a := a) (b := b) k
  cases e2 : (mT o a b k).1.has
  ·rw [if_neg (by simp), ih _ _ (by simp; omega) (by omega)]
   rw [tf e2]; simp
  ·rw [if_pos (by simp), if_pos (fits_small (by simp; omega)), ih _ _ (by simp; omega) (by simp; omega)]
   rw [tf e2]; simp
end
def mShapeJ (o a b : Shape) : Shape × Bool := if (three o a b).2 = true then three o a b else if a.kind = b.kind ∧ a.kind = o.kind then (match mMerge o.pts a.pts b.pts with
 | some p => if mShape ⟨a.kind, p⟩ = true then (⟨a.kind, p⟩, true) else (a, false)
 | none => (a, false)) else (a, false)
theorem i_threeS {o a b : Shape} (ha : a.pts.length ≤ 1048576) (hb : b.pts.length ≤ 1048576) : gf_bg9 o a b = some (three o a b) := by
 unfold gf_bg9 three
 rw [i_ShapeSame ha, Option.bind_some]
 by_cases h1 : a = o
 ·rw [if_pos (decide_eq_true h1), if_pos h1]
 ·rw [if_neg (by simp [h1]), if_neg h1, i_ShapeSame hb, Option.bind_some]
  by_cases h2 : b = o
  ·rw [if_pos (decide_eq_true h2), if_pos h2]
  ·rw [if_neg (by simp [h2]), if_neg h2, i_ShapeSame ha, Option.bind_some]
   by_cases h3 : a = b
   ·rw [if_pos (decide_eq_true h3), if_pos h3]
   ·rw [if_neg (by simp [h3]), if_neg h3]
theorem mg_len {o a b : List Pt} {pa pb : List Pair} (ho : o.length ≤ 12) (ha : a.length ≤ 12) (hb : b.length ≤ 12) : ∀ (n at_ i j k : Nat) (out p : List Pt), mg o a b pa pb n at_ i j k out = some p → p.length ≤ out.length + 13 * n + 12
 | 0, at_, i, j, k, out, p, h => by
  simp only [mg] at h
  cases hp : pick (cutL o i at_) (a.drop j) (b.drop k) with
  | none => rw [hp] at h; cases h
  | some q =>
   have hq := pick_len (by rw [List.length_drop]; omega) (by rw [List.length_drop]; omega) hp
   rw [hp] at h
   cases h
   simp
   omega
 | n + 1, at_, i, j, k, out, p, h => by
  simp only [mg] at h
  split at h
  ·rename_i x y hx hy
   cases hp : pick (cutL o i at_) (cutL a j x) (cutL b k y) with
   | none => rw [hp] at h; cases h
   | some q =>
    have hq := pick_len (cutL_len (i := j) (j := x) ha) (cutL_len (i := k) (j := y) hb) hp
    rw [hp] at h
    have := mg_len ho ha hb n _ _ _ _ _ _ h
    have h2 : (o[at_]?).toList.length ≤ 1 := by cases o[at_]? <;> simp
    simp only [List.length_append] at this
    omega
  ·have := mg_len ho ha hb n _ _ _ _ _ _ h
   omega
theorem mMerge_len {o a b p : List Pt} (ho : o.length ≤ 12) (ha : a.length ≤ 12) (hb : b.length ≤ 12) (h : mMerge o a b = some p) : p.length ≤ 200 := by
 have := mg_len ho ha hb _ _ _ _ _ _ _ h
 simp at this
 omega
theorem mShapeJ_no {o a b : Shape} (h1 : ¬a = o) (h2 : ¬b = o) (h3 : ¬a = b) : mShapeJ o a b = if a.kind = b.kind ∧ a.kind = o.kind then (match mMerge o.pts a.pts b.pts with
 | some p => if mShape ⟨a.kind, p⟩ = true then (⟨a.kind, p⟩, true) else (a, false)
 | none => (a, false)) else (a, false) := by
 unfold mShapeJ three
 rw [if_neg h1, if_neg h2, if_neg h3, if_neg (fun h => by cases h)]
theorem mShapeJ_yes {o a b : Shape} (h : a = o ∨ b = o ∨ a = b) : mShapeJ o a b = three o a b := by
 unfold mShapeJ
 rw [if_pos]
 unfold three
 by_cases h1 : a = o
 ·simp [h1]
 ·by_cases h2 : b = o
  ·simp [h1, h2]
  ·by_cases h3 : a = b
   ·simp [h1, h2, h3]
   ·simp_all
theorem s_l6Shape {o a b : Shape} (ho : o.pts.length ≤ 12) (ha : a.pts.length ≤ 12) (hb : b.pts.length ≤ 12) : gf_ge9 o a b = some (mShapeJ o a b) := by
 unfold gf_ge9
 rw [s_ShapeSame (by omega), Option.bind_some]
 by_cases h1 : a = o
 ·rw [if_pos (decide_eq_true h1), mShapeJ_yes (.inl h1)]
  unfold three
  rw [if_pos h1]
 ·rw [if_neg (by simp [h1]), s_ShapeSame (by omega), Option.bind_some]
  by_cases h2 : b = o
  ·rw [if_pos (decide_eq_true h2), mShapeJ_yes (.inr (.inl h2))]
   unfold three
   rw [if_neg h1, if_pos h2]
   rfl
  ·rw [if_neg (by simp [h2]), s_ShapeSame (by omega)]
   simp only [Option.bind_some]
   by_cases h3 : a = b
   ·rw [if_pos (decide_eq_true h3), mShapeJ_yes (.inr (.inr h3))]
    unfold three
    rw [if_neg h1, if_neg h2, if_pos h3]
   ·rw [if_neg (by simp [h3]), mShapeJ_no h1 h2 h3]
    by_cases k1 : a.kind = b.kind
    ·rw [if_neg (by simp [k1])]
     by_cases k2 : a.kind = o.kind
     ·rw [if_neg (by simp [k2]), if_pos ⟨k1, k2⟩, s_l5Merge ho ha hb, Option.bind_some]
      unfold mMergeR
      cases hm : mMerge o.pts a.pts b.pts with
      | none => simp
      | some p =>
       have := mMerge_len ho ha hb hm
       simp only
       rw [if_neg (by simp), s_ShapeOk (by simp only; omega), Option.bind_some]
       cases mShape ⟨a.kind, p⟩ <;> simp
     ·rw [if_pos (by simp [k2]), if_neg (fun h => k2 h.2)]
    ·rw [if_pos (by simp [k1]), if_neg (fun h => k1 h.1)]
def shW : Str := ⟨#[115, 104, 97, 112, 101]⟩
def muchW : Str := ⟨#[109, 117, 99, 104]⟩
def fjF (o a b : Feat) : Feat := ⟨a.id, (mShapeJ o.shape a.shape b.shape).1, (mKeys o.tags a.tags b.tags).flatMap (tOf o a b)⟩
def fjW (o a b : Feat) : List Str := (if (mShapeJ o.shape a.shape b.shape).2 = true then [] else [shW]) ++ (mKeys o.tags a.tags b.tags).flatMap (wOf o a b)
def mFJ (o a b : Feat) : Feat × List Str := if mFeat (fjF o a b) = true then (fjF o a b, fjW o a b) else (a, [muchW])
theorem comp_len {xs : List Str} : (Go.Lib.compact xs).length ≤ xs.length := by
 unfold Go.Lib.compact Go.Lib.compactUpTo
 rw [List.length_map]
 exact Nat.le_trans (List.length_filter_le _ _) (by simp)
theorem mKeys_len {o a b : List Tag} : (mKeys o a b).length ≤ o.length + a.length + b.length := by
 have := comp_len (xs := ((o ++ a ++ b).map (·.key)).mergeSort leS)
 unfold mKeys
 simp only [List.length_mergeSort, List.length_map, List.length_append] at this
 omega
theorem mShapeJ_pts {o a b : Shape} (ho : o.pts.length ≤ 12) (ha : a.pts.length ≤ 12) (hb : b.pts.length ≤ 12) : (mShapeJ o a b).1.pts.length ≤ 200 := by
 by_cases h : a = o ∨ b = o ∨ a = b
 ·rw [mShapeJ_yes h]
  rcases three_val (o := o) (a := a) (b := b) with h | h <;> rw [h] <;> omega
 ·rw [mShapeJ_no (fun e => h (.inl e)) (fun e => h (.inr (.inl e))) (fun e => h (.inr (.inr e)))]
  split
  ·split
   ·rename_i p hp
    split
    ·exact mMerge_len ho ha hb hp
    ·simp only; omega
   ·simp only; omega
  ·simp only; omega
theorem keys_size {o a b : Feat} (ho : FeatB o) (ha : FeatB a) (hb : FeatB b) : ∀ k, k ∈ mKeys o.tags a.tags b.tags → k.size ≤ 7 := fun k hk => by
 rcases mKeys_mem.1 hk with h | h | h
 ·obtain ⟨t, ht, rfl⟩ := List.mem_map.1 h; exact (ho.key t ht).1
 ·obtain ⟨t, ht, rfl⟩ := List.mem_map.1 h; exact (ha.key t ht).1
 ·obtain ⟨t, ht, rfl⟩ := List.mem_map.1 h; exact (hb.key t ht).1
theorem sumW_le {α : Type} {w : α → Nat} {c : Nat} : ∀ {l : List α}, (∀ x, x ∈ l → w x ≤ c) → sumW w l ≤ l.length * c
 | [], h => by simp [sumW]
 | x :: l, h => by
  have h1 := h x (by simp)
  have h2 := sumW_le (l := l) fun y hy => h y (by simp [hy])
  simp only [sumW, List.length_cons, Nat.add_mul]
  omega
theorem fj_w {o a b : Feat} (ho : FeatB o) (ha : FeatB a) (hb : FeatB b) : wFeat (fjF o a b) ≤ 1000 := by
 have h1 := mShapeJ_pts (o := o.shape) (a := a.shape) (b := b.shape) (by have := ho.pts; omega) (by have := ha.pts; omega) (by have := hb.pts; omega)
 have h2 := mKeys_len (o := o.tags) (a := a.tags) (b := b.tags)
 have h3 := flat1 (f := tOf o a b) (fun k => tOf_len k) (mKeys o.tags a.tags b.tags)
 have t1 := ho.tags; have t2 := ha.tags; have t3 := hb.tags
 have h4 : sumW wTag ((mKeys o.tags a.tags b.tags).flatMap (tOf o a b)) ≤ ((mKeys o.tags a.tags b.tags).flatMap (tOf o a b)).length * 14 := sumW_le fun t ht => by
  obtain ⟨k, hk, hkt⟩ := List.mem_flatMap.1 ht
  have hs := keys_size ho ha hb k hk
  unfold tOf at hkt
  split at hkt
  ·simp only [List.mem_singleton] at hkt
   subst hkt
   have v1 := mVal_size (k := k) ha.key
   have v2 := mVal_size (k := k) hb.key
   unfold wTag
   simp only
   rcases mTag_val (o := mVal o.tags k) (a := mVal a.tags k) (b := mVal b.tags k) with e | e
   ·have : (mT o a b k).1.val.size ≤ 7 := by unfold mT; rw [e]; exact v1
    omega
   ·have : (mT o a b k).1.val.size ≤ 7 := by unfold mT; rw [e]; exact v2
    omega
  ·simp at hkt
 have h5 := sum_w0 (mShapeJ o.shape a.shape b.shape).1.pts
 have h6 := ha.id
 unfold fjF wFeat wShape wL
 simp only
 omega
theorem s_l6Feat {o a b : Feat} (ho : mFeat o = true) (ha : mFeat a = true) (hb : mFeat b = true) : gf_fz9 o a b = some (mFJ o a b) := by
 have bo := featB ho; have ba := featB ha; have bb := featB hb
 have p1 := bo.pts; have p2 := ba.pts; have p3 := bb.pts
 have t1 := bo.tags; have t2 := ba.tags; have t3 := bb.tags
 have hp := mShapeJ_pts (o := o.shape) (a := a.shape) (b := b.shape) (by omega) (by omega) (by omega)
 have hk := mKeys_len (o := o.tags) (a := a.tags) (b := b.tags)
 have hw := fj_w bo ba bb
 have hwa := mFeat_w ha
 unfold gf_fz9
 rw [s_l6Shape (by omega) (by omega) (by omega)]
 simp only [Option.bind_some]
 have k1 : ((if (!(mShapeJ o.shape a.shape b.shape).2) = true then (if fits ([] ++ ([(⟨#[115, 104, 97, 112, 101]⟩ : Str)] : (List Str))).length = true then some ([] ++ ([(⟨#[115, 104, 97, 112, 101]⟩ : Str)] : (List Str))) else none) else (some []) : Option (List Str))) = some (if (mShapeJ o.shape a.shape b.shape).2 = true then [] else [shW]) := by
  cases (mShapeJ o.shape a.shape b.shape).2
  ·rw [if_pos (by rfl), if_pos (fits_small (by simp))]; rfl
  ·rfl
 rw [k1, Option.bind_some]
 have k2 : gf_ff9 (⟨(mShapeJ o.shape a.shape b.shape).1.kind, (mShapeJ o.shape a.shape b.shape).1.pts⟩ : Shape) = some (mShapeJ o.shape a.shape b.shape).1 := by
  unfold gf_ff9
  rw [if_pos (fits_small (by simp; omega))]
  rfl
 rw [k2, Option.bind_some, s_l6Keys (by omega), Option.bind_some, if_pos (fits_small (by omega)), s_l6loop bo ba bb _ _ _ _ (keys_size bo ba bb) (by split <;> simp <;> omega) (by simp; omega), Option.bind_some]
 simp only [List.nil_append]
 have k3 : gf_es9 (⟨a.id, (mShapeJ o.shape a.shape b.shape).1, (mKeys o.tags a.tags b.tags).flatMap (tOf o a b)⟩ : Feat) = some (mFeat (fjF o a b)) := s_FeatOk (f := fjF o a b) (by omega)
 rw [k3, Option.bind_some]
 unfold mFJ
 cases mFeat (fjF o a b)
 ·rw [if_pos (by rfl), s_l2Copy (by omega)]; rfl
 ·rfl
theorem i_Concat {xs : List (List Tag)} (h : xs.length ≤ 1000) (hs : (xs.flatten).length ≤ 1000) : gf_dw9 xs = some xs.flatten := by
 have k1 : ∀ (l : List (List Tag)) (k n : Nat), n + l.flatten.length ≤ 1000 → gl_dw9_1 l k (n : Int) = some ((n + l.flatten.length : Nat) : Int) := by
  intro l
  induction l with
  | nil => intro k n _; rfl
  | cons x l ih =>
   intro k n h
   simp only [List.flatten_cons, List.length_append] at h ⊢
   simp only [gl_dw9_1]
   rw [show IntKind.i64.wrap ((n : Int) + (x.length : Int)) = ((n + x.length : Nat) : Int) by rw [wr1 (by omega) (by omega)]; omega, if_neg (by simp; omega), ih _ _ (by omega)]
   congr 2
   omega
 have k2 : ∀ (l : List (List Tag)) (k : Nat) (v : List Tag), v.length + l.flatten.length ≤ 1000 → gl_dw9_2 l k v = some (v ++ l.flatten) := by
  intro l
  induction l with
  | nil => intro k v _; simp [gl_dw9_2]
  | cons x l ih =>
   intro k v h
   simp only [List.flatten_cons, List.length_append] at h ⊢
   simp only [gl_dw9_2]
   rw [if_pos (fits_small (by rw [List.length_append]; omega)), ih _ _ (by rw [List.length_append]; omega)]
   simp
 have h1 := k1 xs 0 0 (by omega)
 unfold gf_dw9 gf_ef9 growF
 rw [if_pos (fits_small (by omega))]
 refine (congrArg (fun z => Option.bind z _) h1).trans ?_
 simp only [Option.bind_some, Nat.zero_add]
 rw [if_pos (by rw [decide_eq_true (by omega), decide_eq_true (by omega)]; rfl), Option.bind_some, if_pos (fits_small (by omega)), k2 xs 0 [] (by rw [List.length_nil]; omega)]
 rfl
def mFJ2 (o a b : Feat) : Feat × List Str := if (mFeat o && (mFeat a && (mFeat b && (decide (o.id = a.id) && decide (o.id = b.id))))) = true then mFJ o a b else (nF, [])
theorem i_FeatJoin {o a b : Feat} (wo : wFeat o ≤ 1048576) (wa : wFeat a ≤ 1048576) (wb : wFeat b ≤ 1048576) : gf_aa9 o a b = some (mFJ2 o a b) := by
 unfold gf_aa9 mFJ2
 rw [i_FeatOk wo, i_FeatOk wa, i_FeatOk wb, seq_dec, seq_dec]
 cases ho : mFeat o
 ·rfl
 cases ha : mFeat a
 ·rfl
 cases hb : mFeat b
 ·rfl
 by_cases i1 : o.id = a.id
 case neg => simp [i1, nF]
 by_cases i2 : o.id = b.id
 case neg => rw [i1] at i2; simp [i1, i2, nF]
 have bo := featB ho; have ba := featB ha; have bb := featB hb
 have p1 := bo.pts; have p2 := ba.pts; have p3 := bb.pts
 have t1 := bo.tags; have t2 := ba.tags; have t3 := bb.tags
 have hp := mShapeJ_pts (o := o.shape) (a := a.shape) (b := b.shape) (by omega) (by omega) (by omega)
 have hk := mKeys_len (o := o.tags) (a := a.tags) (b := b.tags)
 have hw := fj_w bo ba bb
 have hwa := mFeat_w ha
 simp only [Bool.not_true, Bool.false_eq_true, if_false, Option.bind_some, decide_eq_true i1, decide_eq_true i2, if_true, Bool.and_self, Bool.true_and]
 rw [i_threeS (by omega) (by omega)]
 simp only [Option.bind_some]
 have k1 : ((if (!(three o.shape a.shape b.shape).2) = true then (((if (o.shape.kind == a.shape.kind) = true then (if (o.shape.kind == b.shape.kind) = true then ((gf_ar9 o.shape.pts a.shape.pts b.shape.pts).bind fun x56 => if x56.2 = true then ((gf_at9 (⟨a.shape.kind, x56.1⟩ : Shape)).bind fun x61 => if x61 = true then (some (true, a.shape.kind, x56.1)) else (some (false, (three o.shape a.shape b.shape).1.kind, (three o.shape a.shape b.shape).1.pts))) else (some (false, (three o.shape a.shape b.shape).1.kind, (three o.shape a.shape b.shape).1.pts))) else (some (false, (three o.shape a.shape b.shape).1.kind, (three o.shape a.shape b.shape).1.pts))) else (some (false, (three o.shape a.shape b.shape).1.kind, (three o.shape a.shape b.shape).1.pts)) : Option (Bool × Int × (List Pt)))).bind fun q55 => if (!q55.1) = true then (if fits ([] ++ ([(⟨#[115, 104, 97, 112, 101]⟩ : Str)] : (List Str))).length = true then some (([] ++ ([(⟨#[115, 104, 97, 112, 101]⟩ : Str)] : (List Str))), q55.2.1, q55.2.2) else none) else (some ([], q55.2.1, q55.2.2))) else (some ([], (three o.shape a.shape b.shape).1.kind, (three o.shape a.shape b.shape).1.pts)) : Option ((List Str) × Int × (List Pt)))) =
   some (if (mShapeJ o.shape a.shape b.shape).2 = true then [] else [shW], (mShapeJ o.shape a.shape b.shape).1.kind, (mShapeJ o.shape a.shape b.shape).1.pts) := by
  by_cases h : a.shape = o.shape ∨ b.shape = o.shape ∨ a.shape = b.shape
  ·have h2 : (three o.shape a.shape b.shape).2 = true := by
    unfold three
    by_cases h1 : a.shape = o.shape
    ·simp [h1]
    ·by_cases h2 : b.shape = o.shape
     ·simp [h1, h2]
     ·have h3 : a.shape = b.shape := by simp_all
      rw [if_neg h1, if_neg h2, if_pos h3]
   rw [mShapeJ_yes h, h2]
   rfl
  ·have n1 : ¬ a.shape = o.shape := fun e => h (.inl e)
   have n2 : ¬ b.shape = o.shape := fun e => h (.inr (.inl e))
   have n3 : ¬ a.shape = b.shape := fun e => h (.inr (.inr e))
   have h2 : three o.shape a.shape b.shape = (a.shape, false) := by
    unfold three
    rw [if_neg n1, if_neg n2, if_neg n3]
   have hj := mShapeJ_no n1 n2 n3
   rw [h2]
   simp only [Bool.not_false, if_true]
   by_cases q1 : o.shape.kind = a.shape.kind
   ·by_cases q2 : o.shape.kind = b.shape.kind
    ·rw [if_pos (by simpa using q1), if_pos (by simpa using q2), i_SeqMerge (by omega) (by omega) (by omega)]
     rw [if_pos ⟨q1.symm.trans q2, q1.symm⟩] at hj
     rw [hj]
     unfold mMergeR
     cases hm : mMerge o.shape.pts a.shape.pts b.shape.pts with
     | none => rfl
     | some p =>
      have := mMerge_len (by omega) (by omega) (by omega) hm
      simp only [Option.bind_some, if_true]
      rw [i_ShapeOk (by simp only; omega), Option.bind_some]
      by_cases hs : mShape ⟨a.shape.kind, p⟩ = true
      ·simp only [hs, if_true]; rfl
      ·simp only [hs]; rfl
    ·rw [if_neg (fun h => q2 (q1.trans h.1))] at hj
     rw [hj, if_pos (by simpa using q1), if_neg (by simpa using q2)]
     rfl
   ·rw [if_neg (fun h => q1 h.2.symm)] at hj
    rw [hj, if_neg (by simpa using q1)]
    rfl
 refine (congrArg (fun z => Option.bind z _) k1).trans ?_
 simp only [Option.bind_some]
 have k2 : gf_ba9 (⟨(mShapeJ o.shape a.shape b.shape).1.kind, (mShapeJ o.shape a.shape b.shape).1.pts⟩ : Shape) = some (mShapeJ o.shape a.shape b.shape).1 := by
  unfold gf_ba9
  rw [if_pos (fits_small (by simp; omega))]
  rfl
 have k3 : ∀ (l : List Tag) (k : Nat) (v : List Str), v.length + l.length ≤ 1000 → gl_ab9 l k v = some (v ++ l.map (·.key)) := by
  intro l
  induction l with
  | nil => intro k v _; simp [gl_ab9]
  | cons x l ih =>
   intro k v h
   simp only [List.length_cons] at h
   simp only [gl_ab9]
   rw [if_pos (fits_small (by simp; omega)), ih _ _ (by simp; omega)]
   simp
 have hfl : ([o.tags, a.tags, b.tags] : List (List Tag)).flatten = o.tags ++ a.tags ++ b.tags := by simp
 rw [k2, Option.bind_some, i_Concat (by simp) (by rw [hfl]; simp; omega), Option.bind_some, hfl, if_pos (fits_small (by simp; omega)), k3 _ 0 [] (by simp; omega), Option.bind_some, List.nil_append]
 unfold gf_er9 gf_dv9 sortS compS
 rw [if_pos (fits_small (by simp; omega)), Option.bind_some, if_pos (fits_small (by simp [List.length_mergeSort]; omega)), Option.bind_some, show Go.Lib.compact (((o.tags ++ a.tags ++ b.tags).map (·.key)).mergeSort leS) = mKeys o.tags a.tags b.tags from rfl, if_pos (fits_small (by omega)), i_Fjloop bo ba bb _ _ _ _ (keys_size bo ba bb) (by split <;> simp <;> omega) (by simp; omega), Option.bind_some]
 simp only [List.nil_append]
 have k4 : gf_ac9 (⟨a.id, (mShapeJ o.shape a.shape b.shape).1, (mKeys o.tags a.tags b.tags).flatMap (tOf o a b)⟩ : Feat) = some (mFeat (fjF o a b)) := i_FeatOk (f := fjF o a b) (by omega)
 rw [k4, Option.bind_some]
 unfold mFJ
 cases mFeat (fjF o a b)
 ·rw [if_pos (by rfl), i_cloneFeat (by omega)]; rfl
 ·rfl
def goneW : Str := ⟨#[103, 111, 110, 101]⟩
def bothW : Str := ⟨#[98, 111, 116, 104]⟩
def mJ1 (o a b : Feat × Bool) : (Feat × Bool) × List Str :=
 if (three o a b).2 = true then ((three o a b).1, [])
 else if a.2 = false then ((b.1, true), [goneW])
 else if b.2 = false then ((a.1, true), [goneW])
 else if o.2 = false then ((a.1, true), [bothW])
 else (((mFJ o.1 a.1 b.1).1, true), (mFJ o.1 a.1 b.1).2)
def mOneJ (o a b : List Feat) (id : Str) : (Feat × Bool) × List Str := mJ1 (mSide o id) (mSide a id) (mSide b id)
def mIds3 (o a b : List Feat) : List Str := mIds (a.foldl (fun v x => mPut x v) o) b
theorem mIds3_pw {o a b : List Feat} (h : Pw o) : SPw (mIds3 o a b) := mIds_pw (fold_pw h)
theorem mIds3_mem {o a b : List Feat} {i : Str} : i ∈ mIds3 o a b ↔ i ∈ o.map (·.id) ∨ i ∈ a.map (·.id) ∨ i ∈ b.map (·.id) := by
 unfold mIds3 mIds
 rw [fold_mem, fold_mem, or_assoc]
theorem i_names3 {o a b : List Feat} (hp : Pw o) (ha : o.length + a.length + b.length ≤ 1000) : gf_be9 [o, a, b] = some (mIds3 o a b) := by
 have k5 : ∀ (l : List Feat) (k : Nat) (v : List Str), v.length + l.length ≤ 1000 → gl_be9_5 l k v = some (v ++ l.map (·.id)) := by
  intro l
  induction l with
  | nil => intro k v _; simp [gl_be9_5]
  | cons x l ih =>
   intro k v h
   simp only [List.length_cons] at h
   simp only [gl_be9_5]
   rw [if_pos (fits_small (by simp; omega)), ih _ _ (by simp; omega)]
   simp
 have hm : ((o.map (·.id) ++ a.map (·.id) ++ b.map (·.id)).mergeSort leS).length ≤ 1000 := by rw [List.length_mergeSort]; simp; omega
 unfold gf_be9
 simp only [gl_be9_4, fits_small (n := [o, a, b].length) (by simp), fits_small (n := o.length) (by omega), fits_small (n := a.length) (by omega), fits_small (n := b.length) (by omega), k5 o 0 [] (by simp; omega), k5 a 0 (o.map (·.id)) (by simp; omega), k5 b 0 (o.map (·.id) ++ a.map (·.id)) (by simp; omega), if_true, Option.bind_some, List.nil_append, gf_er9, sortS, fits_small (n := (o.map (·.id) ++ a.map (·.id) ++ b.map (·.id)).length) (by simp; omega), gf_dv9, compS, fits_small (n := ((o.map (·.id) ++ a.map (·.id) ++ b.map (·.id)).mergeSort leS).length) (by omega)]
 congr 1
 refine spw_one (comp_pw (List.pairwise_mergeSort leS_trans leS_total _)) (mIds3_pw hp) fun x => ?_
 rw [comp_mem, (List.mergeSort_perm _ leS).mem_iff, List.mem_append, List.mem_append, mIds3_mem, or_assoc]
theorem fold_len : ∀ {l v : List Feat}, (l.foldl (fun v x => mPut x v) v).length ≤ v.length + l.length
 | [], v => by simp
 | x :: l, v => by
  have h1 := mPut_len (f := x) v
  have h2 := fold_len (l := l) (v := mPut x v)
  simp only [List.foldl_cons, List.length_cons]
  omega
theorem s_l6Ids {o a b : List Feat} (ha : o.length + a.length + b.length ≤ 1000) : gf_ga9 o a b = some (mIds3 o a b) := by
 have k1 : ∀ (l : List Feat) (k : Nat) (v : List Feat), v.length + l.length ≤ 1000 → gl_ga9_1 l k v = some (l.foldl (fun v x => mPut x v) v) := by
  intro l
  induction l with
  | nil => intro k v _; rfl
  | cons x l ih =>
   intro k v h
   simp only [List.length_cons] at h
   have hp := mPut_len (f := x) v
   simp only [gl_ga9_1]
   rw [s_l3Put (by omega), Option.bind_some, ih (k + 1) (mPut x v) (by omega), List.foldl_cons]
 have hl := fold_len (l := a) (v := o)
 unfold gf_ga9 mIds3
 rw [if_pos (fits_small (by omega)), k1 a 0 o (by omega), Option.bind_some, s_l4Ids' (by omega)]
 rfl
theorem mIds3_len {o a b : List Feat} : (mIds3 o a b).length ≤ o.length + a.length + b.length := by
 have h1 := fold_len (l := a) (v := o)
 have h2 := fold_len (l := b) (v := a.foldl (fun v x => mPut x v) o)
 unfold mIds3 mIds
 rw [List.length_map]
 omega
theorem side_feat {s : List Feat} {id : Str} (h : ∀ f, f ∈ s → mFeat f = true) (h2 : (mSide s id).2 = true) : mFeat (mSide s id).1 = true := by
 unfold mSide at h2 ⊢
 split
 ·rename_i f e
  exact h f (List.mem_of_find?_eq_some e)
 ·rename_i e
  rw [e] at h2
  cases h2
theorem side_no {s : List Feat} {id : Str} (h : (mSide s id).2 = false) : mSide s id = (nF, false) := by
 unfold mSide at h ⊢
 split
 ·rename_i f e
  rw [e] at h
  cases h
 ·rfl
theorem mSheet_feat {s : List Feat} (h : mSheet s = true) : ∀ f, f ∈ s → mFeat f = true := fun f hf => by
 unfold mSheet at h
 rw [Bool.and_eq_true] at h
 obtain ⟨j, hj⟩ := allF h.1 hf
 rw [Bool.and_eq_true] at hj
 exact hj.1
theorem s_l6One {o a b : List Feat} {id : Str} (wo : wL wFeat o ≤ 1048576) (wa : wL wFeat a ≤ 1048576) (wb : wL wFeat b ≤ 1048576) (fo : ∀ f, f ∈ o → mFeat f = true) (fa : ∀ f, f ∈ a → mFeat f = true) (fb : ∀ f, f ∈ b → mFeat f = true) : gf_gd9 o a b id = some ((mOneJ o a b id).1.1, (mOneJ o a b id).1.2, (mOneJ o a b id).2) := by
 unfold gf_gd9 mOneJ
 have s1 := side_w (s := o) (id := id)
 have s2 := side_w (s := a) (id := id)
 have s3 := side_w (s := b) (id := id)
 have n1 := side_no (s := o) (id := id)
 have n2 := side_no (s := a) (id := id)
 have n3 := side_no (s := b) (id := id)
 have m1 := side_feat (id := id) fo
 have m2 := side_feat (id := id) fa
 have m3 := side_feat (id := id) fb
 rw [s_l4Side wo, s_l4Side wa, s_l4Side wb]
 generalize mSide o id = so at *
 generalize mSide a id = sa at *
 generalize mSide b id = sb at *
 obtain ⟨ofe, oh⟩ := so
 obtain ⟨af, ah⟩ := sa
 obtain ⟨bf, bh⟩ := sb
 simp only at s1 s2 s3 n1 n2 n3 m1 m2 m3
 have e : (⟨af.id, ⟨af.shape.kind, af.shape.pts⟩, af.tags⟩ : Feat) = af := rfl
 simp only [Option.bind_some, e]
 rw [s_FeatSame (a := af) (b := ofe) (by omega), s_FeatSame (a := bf) (b := ofe) (by omega), s_FeatSame (a := af) (b := bf) (by omega)]
 simp only [Option.bind_some]
 unfold mJ1 three
 simp only [Prod.mk.injEq]
 cases oh <;> cases ah <;> cases bh
 ·obtain rfl := (Prod.mk.inj (n1 rfl)).1
  obtain rfl := (Prod.mk.inj (n2 rfl)).1
  obtain rfl := (Prod.mk.inj (n3 rfl)).1
  simp
 ·obtain rfl := (Prod.mk.inj (n1 rfl)).1
  obtain rfl := (Prod.mk.inj (n2 rfl)).1
  simp
 ·obtain rfl := (Prod.mk.inj (n1 rfl)).1
  obtain rfl := (Prod.mk.inj (n3 rfl)).1
  simp
 ·by_cases h : af = bf <;> simp [h, bothW]
 ·obtain rfl := (Prod.mk.inj (n2 rfl)).1
  obtain rfl := (Prod.mk.inj (n3 rfl)).1
  simp
 ·by_cases h : bf = ofe <;> simp [h, goneW]
 ·by_cases h : af = ofe <;> simp [h, goneW]
 ·by_cases h1 : af = ofe
  ·simp [h1]
  ·by_cases h2 : bf = ofe
   ·simp [h1, h2]
   ·by_cases h3 : af = bf
    ·subst h3
     simp [h1]
    ·simp [h1, h2, h3, s_l6Feat (m1 rfl) (m2 rfl) (m3 rfl)]
def oF (o a b : List Feat) (id : Str) : List Feat := if (mOneJ o a b id).1.2 = true then [(mOneJ o a b id).1.1] else []
def oC (o a b : List Feat) (id : Str) : List Clash := (mOneJ o a b id).2.map fun w => ⟨id, w⟩
def sjF (o a b : List Feat) : List Feat := (mIds3 o a b).flatMap (oF o a b)
def sjC (o a b : List Feat) : List Clash := (mIds3 o a b).flatMap (oC o a b)
def mSJ (o a b : List Feat) : List Feat × List Clash × Bool := if (mSheet o && (mSheet a && (mSheet b && mSheet (sjF o a b)))) = true then (sjF o a b, sjC o a b, true) else ([], [], false)
theorem mFJ_feat {o a b : Feat} (ha : mFeat a = true) : mFeat (mFJ o a b).1 = true := by
 unfold mFJ
 split
 ·assumption
 ·exact ha
theorem fjW_len {o a b : Feat} (ho : FeatB o) (ha : FeatB a) (hb : FeatB b) : (fjW o a b).length ≤ 13 := by
 have hk := mKeys_len (o := o.tags) (a := a.tags) (b := b.tags)
 have t1 := ho.tags; have t2 := ha.tags; have t3 := hb.tags
 have h3 := flat1 (f := wOf o a b) (fun k => wOf_len k) (mKeys o.tags a.tags b.tags)
 unfold fjW
 rw [List.length_append]
 split
 ·rw [List.length_nil]; omega
 ·rw [List.length_singleton]; omega
section
variable {o a b : List Feat}
structure Sh (s : List Feat) : Prop where
 w : wL wFeat s ≤ 1048576
 f : ∀ f, f ∈ s → mFeat f = true
theorem j1_feat (ho : Sh o) (ha : Sh a) (hb : Sh b) (id : Str) (h : (mOneJ o a b id).1.2 = true) : mFeat (mOneJ o a b id).1.1 = true := by
 have n1 := side_no (s := o) (id := id)
 have n2 := side_no (s := a) (id := id)
 have n3 := side_no (s := b) (id := id)
 have m1 := side_feat (id := id) ho.f
 have m2 := side_feat (id := id) ha.f
 have m3 := side_feat (id := id) hb.f
 unfold mOneJ at h ⊢
 generalize mSide o id = so at *
 generalize mSide a id = sa at *
 generalize mSide b id = sb at *
 unfold mJ1 at h ⊢
 split at h
 ·rename_i ht
  rw [if_pos ht]
  rcases three_val (o := so) (a := sa) (b := sb) with e | e
  ·rw [e] at h ⊢; exact m2 h
  ·rw [e] at h ⊢; exact m3 h
 ·rename_i ht
  rw [if_neg ht]
  by_cases h1 : sa.2 = false
  ·rw [if_pos h1]
   apply m3
   cases hb2 : sb.2 with
   | true => rfl
   | false =>
    exfalso
    apply ht
    have e : sa = sb := by rw [n2 h1, n3 hb2]
    unfold three
    rw [e]
    by_cases q : sb = so <;> simp [q]
  ·rw [if_neg h1]
   have h1 : sa.2 = true := by cases h : sa.2 <;> simp_all
   split
   ·exact m2 h1
   ·split
    ·exact m2 h1
    ·exact mFJ_feat (m2 h1)
theorem j1_len (ho : Sh o) (ha : Sh a) (hb : Sh b) (id : Str) : (mOneJ o a b id).2.length ≤ 13 := by
 have m1 := side_feat (id := id) ho.f
 have m2 := side_feat (id := id) ha.f
 have m3 := side_feat (id := id) hb.f
 unfold mOneJ
 generalize mSide o id = so at *
 generalize mSide a id = sa at *
 generalize mSide b id = sb at *
 unfold mJ1
 split
 ·simp
 ·split
  ·simp
  ·split
   ·simp
   ·split
    ·simp
    ·rename_i h1 h2 h3
     have b1 := featB (m1 (by cases h : so.2 <;> simp_all))
     have b2 := featB (m2 (by cases h : sa.2 <;> simp_all))
     have b3 := featB (m3 (by cases h : sb.2 <;> simp_all))
     have := fjW_len b1 b2 b3
     unfold mFJ
     split
     ·exact this
     ·simp
theorem oF_len (id : Str) : (oF o a b id).length ≤ 1 := by
 unfold oF
 split <;> simp
theorem cl5 {id : Str} : ∀ (l : List Str) (k : Nat) (v : List Clash), v.length + l.length ≤ 1048576 → gl_gb9_5 id l k v = some (v ++ l.map fun w => ⟨id, w⟩)
 | [], k, v, _ => by simp [gl_gb9_5]
 | x :: l, k, v, h => by
  simp only [List.length_cons] at h
  simp only [gl_gb9_5]
  rw [if_pos (fits_small (by simp; omega)), cl5 l _ _ (by simp; omega)]
  simp
theorem cl9 {id : Str} : ∀ (l : List Str) (k : Nat) (v : List Clash), v.length + l.length ≤ 1048576 → gl_av9_9 id l k v = some (v ++ l.map fun w => ⟨id, w⟩)
 | [], k, v, _ => by simp [gl_av9_9]
 | x :: l, k, v, h => by
  simp only [List.length_cons] at h
  simp only [gl_av9_9]
  rw [if_pos (fits_small (by simp; omega)), cl9 l _ _ (by simp; omega)]
  simp
theorem of_ {id : Str} {p : Bool} (h : (mOneJ o a b id).1.2 = p) : oF o a b id = if p = true then [(mOneJ o a b id).1.1] else [] := by
 unfold oF
 rw [h]
theorem s_Join4 (ho : Sh o) (ha : Sh a) (hb : Sh b) : ∀ (l : List Str) (k : Nat) (v : List Feat) (c : List Clash), v.length + l.length ≤ 10000 → c.length + 13 * l.length ≤ 100000 → gl_gb9_4 o a b l k v c = some (v ++ l.flatMap (oF o a b), c ++ l.flatMap (oC o a b))
 | [], k, v, c, _, _ => by simp [gl_gb9_4]
 | x :: l, k, v, c, hv, hc => by
  simp only [List.length_cons] at hv hc
  have hl := j1_len ho ha hb x
  simp only [gl_gb9_4]
  rw [s_l6One ho.w ha.w hb.w ho.f ha.f hb.f, Option.bind_some]
  simp only
  have k1 : ((if (mOneJ o a b x).1.2 = true then (if fits (v ++ ([(mOneJ o a b x).1.1] : (List Feat))).length = true then some (v ++ ([(mOneJ o a b x).1.1] : (List Feat))) else none) else (some v) : Option (List Feat))) = some (v ++ oF o a b x) := by
   cases h : (mOneJ o a b x).1.2
   ·rw [of_ h]; simp
   ·rw [of_ h, if_pos rfl, if_pos (fits_small (by simp; omega))]; rfl
  have hf := oF_len (o := o) (a := a) (b := b) x
  rw [k1, Option.bind_some, if_pos (fits_small (by omega)), cl5 _ _ _ (by omega), Option.bind_some, s_Join4 ho ha hb l _ _ _ (by simp; omega) (by simp; omega), List.flatMap_cons, List.flatMap_cons, List.append_assoc, List.append_assoc]
  rfl
end
theorem mSheet_len {s : List Feat} (h : mSheet s = true) : s.length ≤ 8 := by
 unfold mSheet at h
 rw [Bool.and_eq_true] at h
 exact of_decide_eq_true h.2
theorem sh_of {s : List Feat} (h : mSheet s = true) : Sh s := by
 have hf := mSheet_feat h
 have hl := mSheet_len h
 have hw : sumW wFeat s ≤ s.length * 100 := sumW_le fun f hm => mFeat_w (hf f hm)
 exact ⟨by unfold wL; omega, hf⟩
section
variable {o a b : List Feat}
theorem sjF_len : (sjF o a b).length ≤ o.length + a.length + b.length := by
 have h1 := flat1 (f := oF o a b) (fun k => oF_len k) (mIds3 o a b)
 have h2 := mIds3_len (o := o) (a := a) (b := b)
 unfold sjF
 omega
theorem sjF_feat (ho : Sh o) (ha : Sh a) (hb : Sh b) : ∀ f, f ∈ sjF o a b → mFeat f = true := fun f hf => by
 obtain ⟨id, _, h⟩ := List.mem_flatMap.1 hf
 unfold oF at h
 split at h
 ·rename_i h2
  rw [List.mem_singleton.1 h]
  exact j1_feat ho ha hb id h2
 ·simp at h
theorem sjF_w (ho : mSheet o = true) (ha : mSheet a = true) (hb : mSheet b = true) : wL wFeat (sjF o a b) ≤ 10000 := by
 have h1 := sjF_len (o := o) (a := a) (b := b)
 have l1 := mSheet_len ho; have l2 := mSheet_len ha; have l3 := mSheet_len hb
 have hw : sumW wFeat (sjF o a b) ≤ (sjF o a b).length * 100 := sumW_le fun f hm => mFeat_w (sjF_feat (sh_of ho) (sh_of ha) (sh_of hb) f hm)
 unfold wL
 omega
theorem s_SheetJoin (wo : wL wFeat o ≤ 1048576) (wa : wL wFeat a ≤ 1048576) (wb : wL wFeat b ≤ 1048576) : gf_fb9 o a b = some (mSJ o a b) := by
 unfold gf_fb9 mSJ
 rw [s_SheetOk wo, s_SheetOk wa, s_SheetOk wb]
 cases ho : mSheet o
 ·rfl
 cases ha : mSheet a
 ·rfl
 cases hb : mSheet b
 ·rfl
 have l1 := mSheet_len ho; have l2 := mSheet_len ha; have l3 := mSheet_len hb
 have hi := mIds3_len (o := o) (a := a) (b := b)
 have hw := sjF_w ho ha hb
 simp only [Option.bind_some, Bool.not_true, Bool.false_eq_true, if_false, Bool.true_and]
 unfold gf_gb9
 rw [s_l6Ids (by omega), Option.bind_some, if_pos (fits_small (by omega)), s_Join4 (sh_of ho) (sh_of ha) (sh_of hb) _ _ _ _ (by simp; omega) (by simp; omega), Option.bind_some]
 simp only [List.nil_append]
 rw [show (mIds3 o a b).flatMap (oF o a b) = sjF o a b from rfl, s_l3Copy (by omega), Option.bind_some, s_SheetOk (by omega)]
 cases mSheet (sjF o a b) <;> rfl
def th (p : Feat × Bool) : Thing := ⟨p.2, p.1⟩
theorem i_thingOf {s : List Feat} {id : Str} (h : wL wFeat s ≤ 1048576) : gf_bq9 s id = some (th (mSide s id)) := by
 unfold gf_bq9
 rw [i_side h]
 rfl
theorem i_same {p q : Feat × Bool} (h : wFeat p.1 ≤ 1048576) : gf_bo9 (th p) (th q) = some (decide (p = q)) := by
 obtain ⟨f, x⟩ := p
 obtain ⟨g, y⟩ := q
 unfold gf_bo9 th
 simp only
 rw [i_FeatSame (a := f) (b := g) h]
 cases x <;> cases y <;> simp
theorem i_threeT {o a b : Feat × Bool} (ha : wFeat a.1 ≤ 1048576) (hb : wFeat b.1 ≤ 1048576) : gf_bi9 (th o) (th a) (th b) = some (th (three o a b).1, (three o a b).2) := by
 unfold gf_bi9 three
 rw [i_same ha, i_same hb, i_same ha]
 simp only [Option.bind_some]
 by_cases h1 : a = o
 ·simp [h1]
 ·by_cases h2 : b = o
  ·simp [h1, h2]
  ·by_cases h3 : a = b
   ·simp [h1, h2, h3]
   ·simp [h1, h2, h3]
theorem i_Join7 (ho : Sh o) (ha : Sh a) (hb : Sh b) (hid : ∀ id, (mSide o id).2 = true → (mSide o id).1.id = id) (hia : ∀ id, (mSide a id).2 = true → (mSide a id).1.id = id) (hib : ∀ id, (mSide b id).2 = true → (mSide b id).1.id = id) : ∀ (l : List Str) (k : Nat) (c : List Clash) (v : List Feat), v.length + l.length ≤ 10000 → c.length + 13 * l.length ≤ 100000 → gl_av9_7 o a b l k c v = some (c ++ l.flatMap (oC o a b), v ++ l.flatMap (oF o a b))
 | [], k, c, v, _, _ => by simp [gl_av9_7]
 | x :: l, k, c, v, hv, hc => by
  simp only [List.length_cons] at hv hc
  have hl := j1_len ho ha hb x
  have hf := oF_len (o := o) (a := a) (b := b) x
  have hfe := j1_feat ho ha hb x
  have s1 := side_w (s := o) (id := x)
  have s2 := side_w (s := a) (id := x)
  have s3 := side_w (s := b) (id := x)
  have w1 := ho.w; have w2 := ha.w; have w3 := hb.w
  have m1 := side_feat (id := x) ho.f
  have m2 := side_feat (id := x) ha.f
  have m3 := side_feat (id := x) hb.f
  have n2 := side_no (s := a) (id := x)
  have n3 := side_no (s := b) (id := x)
  have d1 := hid x; have d2 := hia x; have d3 := hib x
  simp only [gl_av9_7]
  rw [i_thingOf ho.w, Option.bind_some, i_thingOf ha.w, Option.bind_some, i_thingOf hb.w, Option.bind_some]
  simp only [Option.bind_some]
  have e1 : ∀ p : Feat × Bool, (⟨(th p).has, ⟨(th p).f.id, ⟨(th p).f.shape.kind, (th p).f.shape.pts⟩, (th p).f.tags⟩⟩ : Thing) = th p := fun p => rfl
  have e2 : ∀ p : Feat × Bool, (⟨(th p).f.id, ⟨(th p).f.shape.kind, (th p).f.shape.pts⟩, (th p).f.tags⟩ : Feat) = p.1 := fun p => rfl
  have e3 : ∀ p : Feat × Bool, (th p).has = p.2 := fun p => rfl
  have e5 : ∀ p : Feat × Bool, (⟨p.2, p.1⟩ : Thing) = th p := fun p => rfl
  simp only [e2, e3, e5]
  rw [i_threeT (by omega) (by omega), Option.bind_some]
  have hj : mOneJ o a b x = mJ1 (mSide o x) (mSide a x) (mSide b x) := rfl
  refine (congrArg (fun z => Option.bind z _) (?_ : _ = some (c ++ oC o a b x, (mOneJ o a b x).1.2, (mOneJ o a b x).1.1.id, (mOneJ o a b x).1.1.shape.kind, (mOneJ o a b x).1.1.shape.pts, (mOneJ o a b x).1.1.tags))).trans ?_
  ·unfold oC
   rw [hj] at hl ⊢
   generalize mSide o x = so at *
   generalize mSide a x = sa at *
   generalize mSide b x = sb at *
   simp only [e3]
   unfold mJ1 at hl ⊢
   by_cases ht : (three so sa sb).2 = true
   ·rw [if_pos ht, if_pos ht]
    simp [th]
   ·rw [if_neg ht] at hl ⊢
    rw [if_neg ht]
    by_cases h1 : sa.2 = false
    ·have e : (!sa.2) = true := by rw [h1]; rfl
     rw [if_pos e, if_pos e, if_pos h1, if_pos (fits_small (by simp; omega))]
     have hb2 : sb.2 = true := by
      cases hb2 : sb.2 with
      | true => rfl
      | false =>
       exfalso
       apply ht
       have e : sa = sb := by rw [n2 h1, n3 hb2]
       unfold three
       rw [e]
       by_cases q : sb = so <;> simp [q]
     simp [th, goneW, hb2]
    ·have e : ¬ (!sa.2) = true := by cases h : sa.2 <;> simp_all
     have h1' : sa.2 = true := by cases h : sa.2 <;> simp_all
     rw [if_neg e, if_neg h1]
     rw [if_neg h1] at hl
     by_cases h2 : sb.2 = false
     ·have e' : (!sb.2) = true := by rw [h2]; rfl
      rw [if_pos e', if_neg e, if_pos h2, if_pos (fits_small (by simp; omega))]
      simp [th, goneW, h1']
     ·have e' : ¬ (!sb.2) = true := by cases h : sb.2 <;> simp_all
      have h2' : sb.2 = true := by cases h : sb.2 <;> simp_all
      rw [if_neg e', if_neg h2]
      rw [if_neg h2] at hl
      by_cases h3 : so.2 = false
      ·have e'' : (!so.2) = true := by rw [h3]; rfl
       rw [if_pos e'', if_pos h3, if_pos (fits_small (by simp; omega))]
       simp [th, bothW, h1']
      ·have e'' : ¬ (!so.2) = true := by cases h : so.2 <;> simp_all
       have h3' : so.2 = true := by cases h : so.2 <;> simp_all
       rw [if_neg e'', if_neg h3]
       rw [if_neg h3] at hl
       have hFJ : mFJ2 so.1 sa.1 sb.1 = mFJ so.1 sa.1 sb.1 := by
        unfold mFJ2
        rw [m1 h3', m2 h1', m3 h2', d1 h3', d2 h1', d3 h2']
        simp
       rw [i_FeatJoin (by omega) (by omega) (by omega), hFJ]
       simp only [Option.bind_some]
       simp only at hl
       rw [if_pos (fits_small (by omega)), cl9 _ _ _ (by omega)]
       rfl
  ·simp only [Option.bind_some]
   have e4 : (⟨(mOneJ o a b x).1.1.id, ⟨(mOneJ o a b x).1.1.shape.kind, (mOneJ o a b x).1.1.shape.pts⟩, (mOneJ o a b x).1.1.tags⟩ : Feat) = (mOneJ o a b x).1.1 := rfl
   rw [e4]
   have hcl : (oC o a b x).length ≤ 13 := by unfold oC; rw [List.length_map]; exact hl
   cases h : (mOneJ o a b x).1.2
   ·rw [if_neg (by decide), i_Join7 ho ha hb hid hia hib l _ _ _ (by omega) (by simp; omega), List.flatMap_cons, List.flatMap_cons, of_ h]
    simp
   ·have hw := mFeat_w (hfe h)
    rw [if_pos rfl, i_cloneFeat (by omega), Option.bind_some, if_pos (fits_small (by simp; omega)), i_Join7 ho ha hb hid hia hib l _ _ _ (by simp; omega) (by simp; omega), List.flatMap_cons, List.flatMap_cons, of_ h]
    simp
theorem side_id {s : List Feat} (id : Str) (h : (mSide s id).2 = true) : (mSide s id).1.id = id := by
 unfold mSide at h ⊢
 split
 ·rename_i f e
  simpa using List.find?_some e
 ·rename_i e
  rw [e] at h
  cases h
theorem i_SheetJoin (wo : wL wFeat o ≤ 1048576) (wa : wL wFeat a ≤ 1048576) (wb : wL wFeat b ≤ 1048576) : gf_av9 o a b = some (mSJ o a b) := by
 unfold gf_av9 mSJ
 rw [i_SheetOk wo, i_SheetOk wa, i_SheetOk wb]
 cases ho : mSheet o
 ·rfl
 cases ha : mSheet a
 ·rfl
 cases hb : mSheet b
 ·rfl
 have l1 := mSheet_len ho; have l2 := mSheet_len ha; have l3 := mSheet_len hb
 have hi := mIds3_len (o := o) (a := a) (b := b)
 have hw := sjF_w ho ha hb
 simp only [Option.bind_some, Bool.not_true, Bool.false_eq_true, if_false, Bool.true_and]
 rw [i_names3 (mSheet_pw ho) (by omega), Option.bind_some, if_pos (fits_small (by omega)), i_Join7 (sh_of ho) (sh_of ha) (sh_of hb) side_id side_id side_id _ _ _ _ (by simp; omega) (by simp; omega), Option.bind_some]
 simp only [List.nil_append]
 rw [show (mIds3 o a b).flatMap (oF o a b) = sjF o a b from rfl, i_SheetOk (by omega), Option.bind_some]
 cases mSheet (sjF o a b) <;> rfl
end
def wClash (c : Clash) : Nat := c.id.size + (c.what.size + 0)
theorem flatN {α β : Type} {f : α → List β} {n : Nat} : ∀ (l : List α), (∀ x, x ∈ l → (f x).length ≤ n) → (l.flatMap f).length ≤ n * l.length
 | [], _ => Nat.zero_le _
 | x :: l, h => by
  have h1 := h x (by simp)
  have h2 := flatN l fun y hy => h y (by simp [hy])
  rw [List.flatMap_cons, List.length_append, List.length_cons, Nat.mul_add]
  omega
section
variable {o a b : List Feat}
theorem j1_what (ho : Sh o) (ha : Sh a) (hb : Sh b) (id : Str) : ∀ w, w ∈ (mOneJ o a b id).2 → w.size ≤ 11 := by
 have m1 := side_feat (id := id) ho.f
 have m2 := side_feat (id := id) ha.f
 have m3 := side_feat (id := id) hb.f
 unfold mOneJ
 generalize mSide o id = so at *
 generalize mSide a id = sa at *
 generalize mSide b id = sb at *
 intro w hw
 unfold mJ1 at hw
 split at hw
 ·simp at hw
 ·split at hw
  ·rw [List.mem_singleton.1 hw]; decide
  ·split at hw
   ·rw [List.mem_singleton.1 hw]; decide
   ·split at hw
    ·rw [List.mem_singleton.1 hw]; decide
    ·rename_i h1 h2 h3
     have b1 := featB (m1 (by cases h : so.2 <;> simp_all))
     have b2 := featB (m2 (by cases h : sa.2 <;> simp_all))
     have b3 := featB (m3 (by cases h : sb.2 <;> simp_all))
     unfold mFJ at hw
     split at hw
     ·unfold fjW at hw
      rcases List.mem_append.1 hw with h | h
      ·split at h
       ·cases h
       ·rw [List.mem_singleton.1 h]; decide
      ·obtain ⟨k, hk, h⟩ := List.mem_flatMap.1 h
       have := keys_size b1 b2 b3 k hk
       unfold wOf at h
       split at h
       ·cases h
       ·rw [List.mem_singleton.1 h, ByteArray.size_append]
        have e : tagW.size = 4 := rfl
        omega
     ·rw [List.mem_singleton.1 hw]; decide
theorem sj_w : wL wFeat (mSJ o a b).1 ≤ 10000 := by
 unfold mSJ
 split
 ·rename_i hc
  simp only [Bool.and_eq_true] at hc
  exact sjF_w hc.1 hc.2.1 hc.2.2.1
 ·exact Nat.zero_le _
theorem sj_clash : wL wClash (mSJ o a b).2.1 ≤ 100000 := by
 unfold mSJ
 split
 ·rename_i hc
  simp only [Bool.and_eq_true] at hc
  have so := sh_of hc.1; have sa := sh_of hc.2.1; have sb := sh_of hc.2.2.1
  have l1 := mSheet_len hc.1; have l2 := mSheet_len hc.2.1; have l3 := mSheet_len hc.2.2.1
  have hi := mIds3_len (o := o) (a := a) (b := b)
  have hl : (sjC o a b).length ≤ 13 * (mIds3 o a b).length := flatN _ fun id _ => by
   unfold oC
   rw [List.length_map]
   exact j1_len so sa sb id
  have hw : ∀ c, c ∈ sjC o a b → wClash c ≤ 18 := fun c hc => by
   obtain ⟨id, hid, h⟩ := List.mem_flatMap.1 hc
   unfold oC at h
   obtain ⟨w, hw, rfl⟩ := List.mem_map.1 h
   have h1 := j1_what so sa sb id w hw
   have h2 : id.size ≤ 7 := by
    rcases mIds3_mem.1 hid with h | h | h <;> obtain ⟨f, hf, rfl⟩ := List.mem_map.1 h
    ·exact (featB (so.f f hf)).id
    ·exact (featB (sa.f f hf)).id
    ·exact (featB (sb.f f hf)).id
   unfold wClash
   simp only
   omega
  have := sumW_le (w := wClash) (c := 18) hw
  unfold wL
  simp only
  omega
 ·exact Nat.zero_le _
end
def shAt (r : Repo) (k : Int) : List Feat := ((r.commits[k.toNat]?).map Commit.sheet).getD []
theorem shAt_get {r : Repo} {k : Nat} {x : Commit} (h : r.commits[k]? = some x) : shAt r (k : Int) = x.sheet := by
 unfold shAt
 rw [Int.toNat_natCast, h]
 rfl
noncomputable def mJoinTry (r : Repo) (a b : Int) : List Feat × List Clash × Bool :=
 if (inR r a && inR r b) = true then mSJ (shAt r (mJoinBase r a b)) (shAt r a) (shAt r b) else ([], [], false)
theorem i_JoinTry {r : Repo} {a b : Int} (hw : wRepo r ≤ 1048576) : gf_ah9 r a b = some (mJoinTry r a b) := by
 unfold gf_ah9 mJoinTry
 rw [i_JoinBase hw, Option.bind_some]
 by_cases h : (inR r a && inR r b) = true
 ·rw [if_pos h]
  simp only [Bool.and_eq_true] at h
  obtain ⟨hr, x, rfl, hx⟩ := inR_at h.1
  obtain ⟨_, y, rfl, hy⟩ := inR_at h.2
  obtain ⟨k, k1, k2, _, _⟩ := mJoinBase_in hr hx hy
  obtain ⟨c1, h1⟩ := getI hx
  obtain ⟨c2, h2⟩ := getI hy
  obtain ⟨c3, h3⟩ := getI k2
  rw [k1, if_neg (by simp), idx_nat, h3, Option.bind_some, idx_nat, h1, Option.bind_some, idx_nat, h2, Option.bind_some, i_SheetJoin (sheet_w hw h3) (sheet_w hw h1) (sheet_w hw h2), shAt_get h1, shAt_get h2, shAt_get h3]
  rfl
 ·rw [mJoinBase_out h, if_neg h]
  rfl
theorem s_JoinTry {r : Repo} {a b : Int} (hw : wRepo r ≤ 1048576) : gf_ev9 r a b = some (mJoinTry r a b) := by
 unfold gf_ev9 mJoinTry
 rw [s_JoinBase hw, Option.bind_some]
 by_cases h : (inR r a && inR r b) = true
 ·rw [if_pos h]
  simp only [Bool.and_eq_true] at h
  obtain ⟨hr, x, rfl, hx⟩ := inR_at h.1
  obtain ⟨_, y, rfl, hy⟩ := inR_at h.2
  obtain ⟨k, k1, k2, _, _⟩ := mJoinBase_in hr hx hy
  obtain ⟨c1, h1⟩ := getI hx
  obtain ⟨c2, h2⟩ := getI hy
  obtain ⟨c3, h3⟩ := getI k2
  rw [k1, if_neg (by simp), idx_nat, h3, Option.bind_some, idx_nat, h1, Option.bind_some, idx_nat, h2, Option.bind_some, s_SheetJoin (sheet_w hw h3) (sheet_w hw h1) (sheet_w hw h2), shAt_get h1, shAt_get h2, shAt_get h3]
  rfl
 ·rw [mJoinBase_out h, if_neg h]
  rfl
theorem p_eqClash : Eqs gf_bu9 wClash := by
 intro x h
 simp [gf_bu9, seq_self]
theorem p_eqClashS : Eqs gf_bv9 (wL wClash) := eq_list p_eqClash (gl := gl_bv9_1) (fun _ _ => rfl) (fun _ _ _ _ => rfl) (fun _ _ => rfl)
theorem mkh_ClashS {x : List Clash} {k : Int} (hw : wL wClash x ≤ 3145728) (hk : 0 < k) (hb : k + sumW c2 x ≤ kM) : ∃ y, gf_cn9 x k = some (k + sumW c2 x, y) ∧ gf_cj9 y k = some (k + sumW c2 x) := by
 obtain ⟨y, h, h2, h3⟩ := mk_list (gf := gf_cn9) (hl := fun l j k K => gl_cj9_1 l j k = some (.inr K)) (c := c2) (w := wClash) (fun _ _ => rfl) (fun n k xs => by simp only [gl_cn9_1, ge_dec]; rfl) (fun x k _ hk hb => by
  unfold c2 at hb ⊢
  obtain ⟨t1, h1⟩ := markText_ok (k := k) (by omega)
  obtain ⟨t2, h2⟩ := markText_ok (k := k + 1) (by omega)
  refine ⟨⟨t1, t2⟩, fun n i xs hx hi => ?_, fun l j K hl => ?_⟩
  ·simp only [gl_cn9_1, lt_dec hx, if_true, idx_nat, hx, h1, h2, Option.bind_some, mw hk (by omega), mw (show 0 < k + 1 by omega) (by omega), miw hi, Int.toNat_natCast, set_get hx, List.set_set, two_k]
  ·rw [two_k] at hl
   simp only [gl_cj9_1, seq_self, Bool.not_true, h1, h2, Option.bind_some, mw hk (by omega), mw (show 0 < k + 1 by omega) (by omega)]
   exact hl) (fun _ _ => rfl) x k hw hk hb
 refine ⟨y, h, ?_⟩
 unfold gf_cj9
 rw [if_pos (fits_mid (by unfold wL at hw; omega)), h3]
 rfl
theorem c2_sum {α : Type} (x : List α) : sumW c2 x = 2 * x.length := by
 induction x with
 | nil => rfl
 | cons y x ih => simp only [sumW, List.length_cons, ih, c2]; omega
theorem left2 {n : Int} {w : Nat} (h : ¬ (w : Int) ≤ n) : decide (left n w < 0) = true := by rw [left_neg h]; rfl
theorem left3 {n : Int} {w : Nat} (h : (w : Int) ≤ n) : left n w = n - w ∧ decide (left n w < 0) = false := by rw [left_pos h]; exact ⟨rfl, by simp; omega⟩
theorem jt_clash {r : Repo} {a b : Int} : wL wClash (mJoinTry r a b).2.1 ≤ 100000 := by
 unfold mJoinTry
 split
 ·exact sj_clash
 ·exact Nat.zero_le _
theorem jt_w {r : Repo} {a b : Int} : wL wFeat (mJoinTry r a b).1 ≤ 10000 := by
 unfold mJoinTry
 split
 ·exact sj_w
 ·exact Nat.zero_le _
theorem law_FnExactJoinTry (r : Repo) (a b : Int) (hr : okRepo r) (_ : rI a) (_ : rI b) : gf_bt9 r a b = some true := by
 unfold gf_bt9
 rw [p_szRepo r 1048576 hr (by decide) (by decide)]
 simp only [Option.bind_some]
 by_cases hw : (wRepo r : Int) ≤ 1048576
 ·have h1 : wRepo r ≤ 1048576 := by omega
  rw [(left3 hw).2]
  have hc := cRepo_le r
  obtain ⟨x, hx⟩ := mkn_Repo (x := r) (k := 1) (by omega) (by decide) (by unfold kM; omega)
  have hs := s_JoinTry (a := a) (b := b) h1
  have hi := i_JoinTry (a := a) (b := b) h1
  have hb := jt_w (r := r) (a := a) (b := b)
  have hd := jt_clash (r := r) (a := a) (b := b)
  generalize mJoinTry r a b = q at hs hi hb hd
  obtain ⟨s, c, ok⟩ := q
  simp only at hb hd
  have hcs : sumW cFeat s ≤ 2 * wL wFeat s := sum_le (a := 2) cFeat_le s
  have hcc := c2_sum c
  have hcl : c.length ≤ 100000 := by unfold wL at hd; omega
  obtain ⟨y, hy1, hy2⟩ := mkh_FeatS (x := s) (k := 1) (by omega) (by decide) (by unfold kM; omega)
  obtain ⟨z, hz1, hz2⟩ := mkh_ClashS (x := c) (k := 1 + sumW cFeat s) (by omega) (by omega) (by unfold kM; omega)
  have e1 : ¬ ((1 : Int) + cRepo r < 0) := by omega
  have e2 : ¬ ((1 : Int) + sumW cFeat s < 0) := by omega
  have e3 : ¬ ((1 : Int) + sumW cFeat s + sumW c2 c < 0) := by omega
  simp [p_toRepo r h1, hs, hi, p_eqRepo r (by omega), p_eqFeatS s (by omega), p_eqClashS c (by omega), hx, hy1, hy2, hz1, hz2, e1, e2, e3]
 ·rw [left2 hw]
  rfl
end Go.Proofs.AM
