/- Lemmas of the proof (QBP), on an abstract machine. Conditions: none. -/
import Derived.Test.YtodmjmkakgamlaaGreatQBD
import Derived.Test.YtodmjmkakgamlaaGreatM2
import Derived.Test.YtodmjmkakgamlaaGreatHT
set_option linter.unusedVariables false
set_option linter.unusedSimpArgs false
set_option maxRecDepth 10000
namespace Go.Proofs.AM
theorem p_szPtS : Sz gf_cn9 (okL okPt) (wL w0) := sz_flat fun _ _ => rfl
theorem p_szTag : Sz gf_cq9 okTag wTag := by
 intro x n hx h0 hn
 unfold gf_cq9
 refine sz_str hx.1 h0 hn fun m0 e0 a0 b0 => ?_
 rw [e0]
 refine sz_str hx.2 a0 b0 fun m1 e1 a1 b1 => ?_
 rw [e1]
 exact sz_end a1
theorem p_szShape : Sz gf_cp9 okShape wShape := by
 intro x n hx h0 hn
 unfold gf_cp9
 refine sz_sub p_szPtS hx.2 h0 hn fun m0 a0 b0 => ?_
 exact sz_end a0
theorem p_szTagS : Sz gf_cr9 (okL okTag) (wL wTag) := sz_list p_szTag (gl := gl_cr9_1) (fun _ _ => rfl) (fun _ _ _ _ => rfl) (fun _ _ => rfl)
theorem p_szFeat : Sz gf_ci9 okFeat wFeat := by
 intro x n hx h0 hn
 unfold gf_ci9
 refine sz_str hx.1 h0 hn fun m0 e0 a0 b0 => ?_
 rw [e0]
 refine sz_sub p_szShape hx.2.1 a0 b0 fun m1 a1 b1 => ?_
 refine sz_sub p_szTagS hx.2.2 a1 b1 fun m2 a2 b2 => ?_
 exact sz_end a2
theorem p_szIntS : Sz gf_cm9 (okL rI) (wL w0) := sz_flat fun _ _ => rfl
theorem p_szFeatS : Sz gf_cj9 (okL okFeat) (wL wFeat) := sz_list p_szFeat (gl := gl_cj9_1) (fun _ _ => rfl) (fun _ _ _ _ => rfl) (fun _ _ => rfl)
theorem p_szCommit : Sz gf_cg9 okCommit wCommit := by
 intro x n hx h0 hn
 unfold gf_cg9
 refine sz_sub p_szIntS hx.1 h0 hn fun m0 a0 b0 => ?_
 refine sz_sub p_szFeatS hx.2.1 a0 b0 fun m1 a1 b1 => ?_
 refine sz_str hx.2.2 a1 b1 fun m2 e2 a2 b2 => ?_
 rw [e2]
 exact sz_end a2
theorem p_szHead : Sz gf_ck9 okHead wHead := by
 intro x n hx h0 hn
 unfold gf_ck9
 refine sz_str hx.1 h0 hn fun m0 e0 a0 b0 => ?_
 rw [e0]
 exact sz_end a0
theorem p_szCommitS : Sz gf_ch9 (okL okCommit) (wL wCommit) := sz_list p_szCommit (gl := gl_ch9_1) (fun _ _ => rfl) (fun _ _ _ _ => rfl) (fun _ _ => rfl)
theorem p_szHeadS : Sz gf_cl9 (okL okHead) (wL wHead) := sz_list p_szHead (gl := gl_cl9_1) (fun _ _ => rfl) (fun _ _ _ _ => rfl) (fun _ _ => rfl)
theorem p_toPt : Cp gf_cz9 w0 := fun _ _ => rfl
theorem p_toPtS : Cp gf_da9 (wL w0) := cp_list p_toPt (gl := gl_da9_1) (fun _ _ => rfl) (fun _ _ _ _ => rfl) (fun _ => rfl)
theorem p_toTag : Cp gf_dd9 wTag := fun _ _ => rfl
theorem p_toShape : Cp gf_dc9 wShape := by
 intro x h
 unfold wShape at h
 have h0 := p_toPtS x.pts (by omega)
 simp only [gf_dc9, h0, Option.bind_some]
theorem p_toTagS : Cp gf_de9 (wL wTag) := cp_list p_toTag (gl := gl_de9_1) (fun _ _ => rfl) (fun _ _ _ _ => rfl) (fun _ => rfl)
theorem p_toFeat : Cp gf_cu9 wFeat := by
 intro x h
 unfold wFeat at h
 have h1 := p_toShape x.shape (by omega)
 have h2 := p_toTagS x.tags (by omega)
 simp only [gf_cu9, h1, h2, Option.bind_some]
theorem p_toIntS : Cp gf_cy9 (wL w0) := cp_list (cp_id (w := w0)) (gl := gl_cy9_1) (fun _ _ => rfl) (fun _ _ _ _ => rfl) (fun _ => rfl)
theorem p_toFeatS : Cp gf_cv9 (wL wFeat) := cp_list p_toFeat (gl := gl_cv9_1) (fun _ _ => rfl) (fun _ _ _ _ => rfl) (fun _ => rfl)
theorem p_toCommit : Cp gf_cs9 wCommit := by
 intro x h
 unfold wCommit at h
 have h0 := p_toIntS x.up (by omega)
 have h1 := p_toFeatS x.sheet (by omega)
 simp only [gf_cs9, h0, h1, Option.bind_some]
theorem p_toHead : Cp gf_cw9 wHead := fun _ _ => rfl
theorem p_toCommitS : Cp gf_ct9 (wL wCommit) := cp_list p_toCommit (gl := gl_ct9_1) (fun _ _ => rfl) (fun _ _ _ _ => rfl) (fun _ => rfl)
theorem p_toHeadS : Cp gf_cx9 (wL wHead) := cp_list p_toHead (gl := gl_cx9_1) (fun _ _ => rfl) (fun _ _ _ _ => rfl) (fun _ => rfl)
theorem p_eqPt : Eqs gf_bl9 w0 := by
 intro x h
 simp [gf_bl9]
theorem p_eqPtS : Eqs gf_bm9 (wL w0) := eq_list p_eqPt (gl := gl_bm9_1) (fun _ _ => rfl) (fun _ _ _ _ => rfl) (fun _ _ => rfl)
theorem p_eqTag : Eqs gf_bp9 wTag := by
 intro x h
 simp [gf_bp9, seq_self]
theorem p_eqShape : Eqs gf_bo9 wShape := by
 intro x h
 unfold wShape at h
 have h0 := p_eqPtS x.pts (by omega)
 simp [gf_bo9, h0]
theorem p_eqTagS : Eqs gf_bq9 (wL wTag) := eq_list p_eqTag (gl := gl_bq9_1) (fun _ _ => rfl) (fun _ _ _ _ => rfl) (fun _ _ => rfl)
theorem p_eqFeat : Eqs gf_bg9 wFeat := by
 intro x h
 unfold wFeat at h
 have h1 := p_eqShape x.shape (by omega)
 have h2 := p_eqTagS x.tags (by omega)
 simp [gf_bg9, seq_self, h1, h2]
theorem p_eqIntS : Eqs gf_bk9 (wL w0) := eq_list (eq_id (w := w0)) (gl := gl_bk9_1) (fun _ _ => rfl) (fun _ _ _ _ => rfl) (fun _ _ => rfl)
theorem p_eqFeatS : Eqs gf_bh9 (wL wFeat) := eq_list p_eqFeat (gl := gl_bh9_1) (fun _ _ => rfl) (fun _ _ _ _ => rfl) (fun _ _ => rfl)
theorem p_eqCommit : Eqs gf_bc9 wCommit := by
 intro x h
 unfold wCommit at h
 have h0 := p_eqIntS x.up (by omega)
 have h1 := p_eqFeatS x.sheet (by omega)
 simp [gf_bc9, seq_self, h0, h1]
theorem p_eqHead : Eqs gf_bi9 wHead := by
 intro x h
 simp [gf_bi9, seq_self]
theorem p_eqCommitS : Eqs gf_bd9 (wL wCommit) := eq_list p_eqCommit (gl := gl_bd9_1) (fun _ _ => rfl) (fun _ _ _ _ => rfl) (fun _ _ => rfl)
theorem p_eqHeadS : Eqs gf_bj9 (wL wHead) := eq_list p_eqHead (gl := gl_bj9_1) (fun _ _ => rfl) (fun _ _ _ _ => rfl) (fun _ _ => rfl)
theorem p_szRepo : Sz gf_co9 okRepo wRepo := by
 intro x n hx h0 hn
 unfold gf_co9
 refine sz_sub p_szCommitS hx.1 h0 hn fun m0 a0 b0 => ?_
 refine sz_sub p_szHeadS hx.2 a0 b0 fun m1 a1 b1 => ?_
 exact sz_end a1
theorem p_toRepo : Cp gf_db9 wRepo := by
 intro x h
 unfold wRepo at h
 have h0 := p_toCommitS x.commits (by omega)
 have h1 := p_toHeadS x.heads (by omega)
 simp only [gf_db9, h0, h1, Option.bind_some]
theorem p_eqRepo : Eqs gf_bn9 wRepo := by
 intro x h
 unfold wRepo at h
 have h0 := p_eqCommitS x.commits (by omega)
 have h1 := p_eqHeadS x.heads (by omega)
 simp [gf_bn9, h0, h1]
theorem p_eqChange : Eqs gf_ba9 wChange := by
 intro x h
 unfold wChange at h
 have h1 := p_eqFeat x.was (by omega)
 have h2 := p_eqFeat x.now (by omega)
 simp [gf_ba9, seq_self, h1, h2]
theorem p_eqChangeS : Eqs gf_bb9 (wL wChange) := eq_list p_eqChange (gl := gl_bb9_1) (fun _ _ => rfl) (fun _ _ _ _ => rfl) (fun _ _ => rfl)
theorem p_eqEntry : Eqs gf_be9 wEntry := by
 intro x h
 unfold wEntry at h
 have h0 := p_eqIntS x.up (by omega)
 have h2 := p_eqChangeS x.diff (by omega)
 simp [gf_be9, seq_self, h0, h2]
theorem p_eqEntryS : Eqs gf_bf9 (wL wEntry) := eq_list p_eqEntry (gl := gl_bf9_1) (fun _ _ => rfl) (fun _ _ _ _ => rfl) (fun _ _ => rfl)
theorem s_WordOk {s : Str} (h : s.size ≤ 1048576) : gf_ec9 s = some (mWord s) := by
 unfold gf_ec9 mWord
 rw [if_pos (fits_small h), loopB (gl := gl_ec9_1) (p := fun (b : UInt8) _ => decide (97 ≤ b.toNat) && decide (b.toNat ≤ 122)) (xs := s.data.toList) (fun _ => rfl) (fun x l k _ => ?_) s.data.toList 0 rfl]
 ·have e1 : ((s.size : Int) ≥ 1) ↔ 1 ≤ s.size := by omega
  have e2 : ((s.size : Int) ≤ 6) ↔ s.size ≤ 6 := by omega
  cases allFrom (fun (b : UInt8) _ => decide (97 ≤ b.toNat) && decide (b.toNat ≤ 122)) s.data.toList 0
  ·rfl
  ·by_cases h1 : 1 ≤ s.size <;> simp [e1, e2, h1]
 ·have e1 : ((x.toNat : Int) < 97) ↔ ¬ 97 ≤ x.toNat := by omega
  have e2 : ((x.toNat : Int) > 122) ↔ ¬ x.toNat ≤ 122 := by omega
  simp only [gl_ec9_1, e1, e2]
  by_cases h1 : 97 ≤ x.toNat <;> by_cases h2 : x.toNat ≤ 122 <;> simp [h1, h2]
theorem i_WordOk {s : Str} (h : s.size ≤ 1048576) : gf_ap9 s = some (mWord s) := by
 unfold gf_ap9 mWord
 rw [if_pos (fits_small h), loopB (gl := gl_ap9_1) (p := fun (b : UInt8) _ => decide (97 ≤ b.toNat) && decide (b.toNat ≤ 122)) (xs := s.data.toList) (fun _ => rfl) (fun x l k _ => ?_) s.data.toList 0 rfl]
 ·have e1 : ((s.size : Int) ≥ 1) ↔ 1 ≤ s.size := by omega
  have e2 : ((s.size : Int) ≤ 6) ↔ s.size ≤ 6 := by omega
  cases allFrom (fun (b : UInt8) _ => decide (97 ≤ b.toNat) && decide (b.toNat ≤ 122)) s.data.toList 0
  ·rfl
  ·by_cases h1 : 1 ≤ s.size <;> simp [gf_ay9, e1, e2, h1]
 ·have e1 : ((x.toNat : Int) < 97) ↔ ¬ 97 ≤ x.toNat := by omega
  have e2 : ((x.toNat : Int) > 122) ↔ ¬ x.toNat ≤ 122 := by omega
  simp only [gl_ap9_1, e1, e2]
  by_cases h1 : 97 ≤ x.toNat <;> by_cases h2 : x.toNat ≤ 122 <;> simp [h1, h2]
theorem s_l1Num (n : Int) : gf_ee9 n = some (mNum n) := by
 unfold gf_ee9 mNum
 by_cases h : -1000 ≤ n <;> simp [h]
theorem i_within (n a b : Int) : gf_ay9 n a b = some (decide (a ≤ n) && decide (n ≤ b)) := by
 unfold gf_ay9
 by_cases h : a ≤ n <;> simp [h]
theorem s_l1Pts {xs : List Pt} (h : xs.length ≤ 1048576) : gf_ef9 xs = some (mPts xs && decide (xs.length ≤ 6)) := by
 unfold gf_ef9 mPts
 rw [if_pos (fits_small h), loopB (gl := gl_ef9_1 xs) (p := fun p k => mNum p.x && (mNum p.y && (decide (k = 0) || decide (xs[k - 1]? ≠ some p)))) (xs := xs) (fun _ => rfl) (fun x l k hd => ?_) xs 0 rfl]
 ·rw [show decide ((xs.length : Int) ≤ 6) = decide (xs.length ≤ 6) from decI]
  exact endB
 ·simp only [gl_ef9_1, s_l1Num, Option.bind_some, ptb, posI]
  rcases Nat.eq_zero_or_pos k with rfl | hk
  ·cases mNum x.x <;> cases mNum x.y <;> simp
  ·obtain ⟨y, hy⟩ := drop_prev hd hk
   have hl := drop_len hd
   have hw := wrap_pred hk (by omega)
   rw [hw, idx_nat, hy]
   have hk' : ¬ k = 0 := by omega
   by_cases e : x = y
   ·subst e
    cases mNum x.x <;> cases mNum x.y <;> simp [hk, hk', hy]
   ·have e' : ¬ y = x := fun h => e h.symm
    cases mNum x.x <;> cases mNum x.y <;> simp [hk, hk', hy, e, e']
theorem s_ShapeOk {x : Shape} (h : x.pts.length ≤ 1048576) : gf_dy9 x = some (mShape x) := by
 unfold gf_dy9 mShape
 rw [s_l1Pts h]
 simp only [Option.bind_some, ptb]
 have c1 : ((x.pts.length : Int) == 1) = decide (x.pts.length = 1) := by
  by_cases e : x.pts.length = 1 <;> simp [e] <;> omega
 have c2 : ((x.pts.length : Int) ≥ 2) ↔ 2 ≤ x.pts.length := by omega
 have c3 : ((x.pts.length : Int) ≥ 3) ↔ 3 ≤ x.pts.length := by omega
 cases mPts x.pts
 ·simp
 ·by_cases hl : x.pts.length ≤ 6
  ·by_cases k1 : x.kind = 1
   ·simp [k1, hl, c1]
   ·by_cases k2 : x.kind = 2
    ·simp [k2, hl, c2]
    ·by_cases k3 : x.kind = 3
     ·by_cases h3 : 3 ≤ x.pts.length
      ·obtain ⟨p, hp⟩ : ∃ p, x.pts[0]? = some p := ⟨x.pts[0], List.getElem?_eq_getElem (by omega)⟩
       obtain ⟨q, hq⟩ : ∃ p, x.pts[x.pts.length - 1]? = some p := ⟨x.pts[x.pts.length - 1], List.getElem?_eq_getElem (by omega)⟩
       have hw := wrap_pred (k := x.pts.length) (by omega) (by omega)
       have e0 : idx x.pts 0 = some p := by rw [← hp]; exact idx_nat (k := 0)
       have e1 : idx x.pts ((x.pts.length - 1 : Nat) : Int) = some q := by rw [← hq]; exact idx_nat
       rw [hw]
       simp [k3, hl, c3, h3, e0, e1, hp, hq]
      ·simp [k3, hl, c3, h3]
     ·simp [k1, k2, k3, hl]
  ·simp [hl]
theorem i_ptOk (p : Pt) : gf_av9 p = some (mNum p.x && mNum p.y) := by
 unfold gf_av9 mNum
 rw [i_within, i_within]
 simp only [Option.bind_some]
 cases (decide (-1000 ≤ p.x) && decide (p.x ≤ 1000)) <;> simp
theorem i_ShapeOk {x : Shape} (h : x.pts.length ≤ 1048576) : gf_al9 x = some (mShape x) := by
 unfold gf_al9 mShape
 have c1 : ((x.pts.length : Int) == 1) = decide (x.pts.length = 1) := by
  by_cases e : x.pts.length = 1 <;> simp [e] <;> omega
 have c2 : ((2 : Int) ≤ (x.pts.length : Int)) ↔ 2 ≤ x.pts.length := by omega
 have c3 : ((3 : Int) ≤ (x.pts.length : Int)) ↔ 3 ≤ x.pts.length := by omega
 have c6 : ((x.pts.length : Int) ≤ 6) ↔ x.pts.length ≤ 6 := by omega
 rw [if_pos (fits_small h), loopB (gl := gl_al9_1 x) (p := fun p k => mNum p.x && (mNum p.y && (decide (k = 0) || decide (x.pts[k - 1]? ≠ some p)))) (xs := x.pts) (fun _ => rfl) (fun y l k hd => ?_) x.pts 0 rfl]
 ·show _ = some (mPts x.pts && _)
  have hm : allFrom (fun (p : Pt) k => mNum p.x && (mNum p.y && (decide (k = 0) || decide (x.pts[k - 1]? ≠ some p)))) x.pts 0 = mPts x.pts := rfl
  rw [hm]
  cases mPts x.pts
  ·rfl
  ·simp only [if_true, Option.bind_some, ptb, i_within]
   by_cases k1 : x.kind = 1
   ·by_cases e : x.pts.length = 1 <;> simp [k1, c1, e]
   ·by_cases k2 : x.kind = 2
    ·by_cases e : x.pts.length ≤ 6 <;> simp [k2, c2, c6, e]
    ·by_cases k3 : x.kind = 3
     ·by_cases h3 : 3 ≤ x.pts.length
      ·obtain ⟨p, hp⟩ : ∃ p, x.pts[0]? = some p := ⟨x.pts[0], List.getElem?_eq_getElem (by omega)⟩
       obtain ⟨q, hq⟩ : ∃ p, x.pts[x.pts.length - 1]? = some p := ⟨x.pts[x.pts.length - 1], List.getElem?_eq_getElem (by omega)⟩
       have hw := wrap_pred (k := x.pts.length) (by omega) (by omega)
       have e0 : idx x.pts 0 = some p := by rw [← hp]; exact idx_nat (k := 0)
       have e1 : idx x.pts ((x.pts.length - 1 : Nat) : Int) = some q := by rw [← hq]; exact idx_nat
       rw [hw]
       by_cases e : x.pts.length ≤ 6 <;> simp [k3, c3, c6, h3, e0, e1, hp, hq, e]
      ·simp [k3, c3, c6, h3]
     ·simp [k1, k2, k3]
 ·simp only [gl_al9_1, i_ptOk, Option.bind_some, ptb, posI]
  rcases Nat.eq_zero_or_pos k with rfl | hk
  ·cases mNum y.x <;> cases mNum y.y <;> simp
  ·obtain ⟨z, hz⟩ := drop_prev hd hk
   have hl := drop_len hd
   have hw := wrap_pred hk (by omega)
   rw [hw, idx_nat, hz]
   have hk' : ¬ k = 0 := by omega
   by_cases e : z = y <;> cases mNum y.x <;> cases mNum y.y <;> simp [hk, hk', hz, e]
theorem s_l2Tags {ts : List Tag} (h : wL wTag ts ≤ 1048576) : gf_ej9 ts = some (mTags ts && decide (ts.length ≤ 4)) := by
 have hlen : ts.length ≤ 1048576 := by unfold wL at h; omega
 unfold gf_ej9 mTags
 rw [if_pos (fits_small hlen), loopB (gl := gl_ej9_1 ts) (p := fun t k => mWord t.key && (mWord t.val && (decide (k = 0) || mPrev Tag.key ts t k))) (xs := ts) (fun _ => rfl) (fun x l k hd => ?_) ts 0 rfl]
 ·rw [show decide ((ts.length : Int) ≤ 4) = decide (ts.length ≤ 4) from decI]
  exact endB
 ·have hx : x ∈ ts := List.mem_of_getElem? (drop_get hd)
  have hs := sum_mem (w := wTag) hx
  unfold wL at h
  have hk1 : x.key.size ≤ 1048576 := by have e0 : wTag x = x.key.size + (x.val.size + 0) := rfl; omega
  have hk2 : x.val.size ≤ 1048576 := by have e0 : wTag x = x.key.size + (x.val.size + 0) := rfl; omega
  simp only [gl_ej9_1, s_WordOk hk1, s_WordOk hk2, Option.bind_some, posI, slt_seq]
  rcases Nat.eq_zero_or_pos k with rfl | hk
  ·cases mWord x.key <;> cases mWord x.val <;> simp
  ·obtain ⟨z, hz⟩ := drop_prev hd hk
   have hl := drop_len hd
   have hw := wrap_pred hk (by omega)
   rw [hw, idx_nat, hz]
   have hk' : ¬ k = 0 := by omega
   cases e : slt z.key x.key <;> cases mWord x.key <;> cases mWord x.val <;> simp [hk, hk', hz, e, mPrev]
theorem s_FeatOk {f : Feat} (h : wFeat f ≤ 1048576) : gf_du9 f = some (mFeat f) := by
 unfold wFeat wShape at h
 have h1 : f.id.size ≤ 1048576 := by omega
 have h2 : f.shape.pts.length ≤ 1048576 := by unfold wL at h; omega
 unfold gf_du9 mFeat
 rw [s_WordOk h1, s_ShapeOk h2, s_l2Tags (by omega)]
 simp only [Option.bind_some]
 cases mWord f.id <;> cases mShape f.shape <;> simp
theorem i_FeatOk {f : Feat} (h : wFeat f ≤ 1048576) : gf_ac9 f = some (mFeat f) := by
 unfold wFeat wShape at h
 have h1 : f.id.size ≤ 1048576 := by omega
 have h2 : f.shape.pts.length ≤ 1048576 := by unfold wL at h; omega
 have h3 : wL wTag f.tags ≤ 1048576 := by omega
 have hlen : f.tags.length ≤ 1048576 := by unfold wL at h3; omega
 unfold gf_ac9 mFeat
 rw [if_pos (fits_small hlen), loopB (gl := gl_ac9_1 f) (p := fun t k => mWord t.key && (mWord t.val && (decide (k = 0) || mPrev Tag.key f.tags t k))) (xs := f.tags) (fun _ => rfl) (fun x l k hd => ?_) f.tags 0 rfl]
 ·have hm : allFrom (fun (t : Tag) k => mWord t.key && (mWord t.val && (decide (k = 0) || mPrev Tag.key f.tags t k))) f.tags 0 = mTags f.tags := rfl
  rw [hm, i_WordOk h1, i_ShapeOk h2]
  rw [show decide ((f.tags.length : Int) ≤ 4) = decide (f.tags.length ≤ 4) from decI]
  cases mTags f.tags <;> cases mWord f.id <;> cases mShape f.shape <;> simp
 ·have hx : x ∈ f.tags := List.mem_of_getElem? (drop_get hd)
  have hs := sum_mem (w := wTag) hx
  unfold wL at h3
  have hk1 : x.key.size ≤ 1048576 := by have e0 : wTag x = x.key.size + (x.val.size + 0) := rfl; omega
  have hk2 : x.val.size ≤ 1048576 := by have e0 : wTag x = x.key.size + (x.val.size + 0) := rfl; omega
  simp only [gl_ac9_1, i_WordOk hk1, i_WordOk hk2, Option.bind_some, posI]
  rcases Nat.eq_zero_or_pos k with rfl | hk
  ·cases mWord x.key <;> cases mWord x.val <;> simp
  ·obtain ⟨z, hz⟩ := drop_prev hd hk
   have hl := drop_len hd
   have hw := wrap_pred hk (by omega)
   rw [hw, idx_nat, hz]
   have hk' : ¬ k = 0 := by omega
   cases e : slt z.key x.key <;> cases mWord x.key <;> cases mWord x.val <;> simp [hk, hk', hz, e, mPrev]
theorem s_SheetOk {fs : List Feat} (h : wL wFeat fs ≤ 1048576) : gf_ea9 fs = some (mSheet fs) := by
 have hlen : fs.length ≤ 1048576 := by unfold wL at h; omega
 unfold gf_ea9 mSheet
 rw [if_pos (fits_small hlen), loopB (gl := gl_ea9_1 fs) (p := fun f k => mFeat f && (decide (k = 0) || mPrev Feat.id fs f k)) (xs := fs) (fun _ => rfl) (fun x l k hd => ?_) fs 0 rfl]
 ·rw [show decide ((fs.length : Int) ≤ 8) = decide (fs.length ≤ 8) from decI]
  exact endB
 ·have hx : x ∈ fs := List.mem_of_getElem? (drop_get hd)
  have hs := sum_mem (w := wFeat) hx
  unfold wL at h
  simp only [gl_ea9_1, s_FeatOk (f := x) (by omega), Option.bind_some, posI, slt_seq]
  rcases Nat.eq_zero_or_pos k with rfl | hk
  ·cases mFeat x <;> simp
  ·obtain ⟨z, hz⟩ := drop_prev hd hk
   have hl := drop_len hd
   have hw := wrap_pred hk (by omega)
   rw [hw, idx_nat, hz]
   have hk' : ¬ k = 0 := by omega
   cases e : slt z.id x.id <;> cases mFeat x <;> simp [hk, hk', hz, e, mPrev]
theorem i_SheetOk {fs : List Feat} (h : wL wFeat fs ≤ 1048576) : gf_an9 fs = some (mSheet fs) := by
 have hlen : fs.length ≤ 1048576 := by unfold wL at h; omega
 unfold gf_an9 mSheet
 rw [if_pos (fits_small hlen), loopB (gl := gl_an9_1 fs) (p := fun f k => mFeat f && (decide (k = 0) || mPrev Feat.id fs f k)) (xs := fs) (fun _ => rfl) (fun x l k hd => ?_) fs 0 rfl]
 ·rw [show decide ((fs.length : Int) ≤ 8) = decide (fs.length ≤ 8) from decI]
  exact endB
 ·have hx : x ∈ fs := List.mem_of_getElem? (drop_get hd)
  have hs := sum_mem (w := wFeat) hx
  unfold wL at h
  simp only [gl_an9_1, i_FeatOk (f := x) (by omega), Option.bind_some, posI, slt_seq]
  rcases Nat.eq_zero_or_pos k with rfl | hk
  ·cases mFeat x <;> simp
  ·obtain ⟨z, hz⟩ := drop_prev hd hk
   have hl := drop_len hd
   have hw := wrap_pred hk (by omega)
   rw [hw, idx_nat, hz]
   have hk' : ¬ k = 0 := by omega
   cases e : slt z.id x.id <;> cases mFeat x <;> simp [hk, hk', hz, e, mPrev]
theorem s_l1Same {a b : List Pt} (h : a.length ≤ 1048576) : gf_eg9 a b = some (decide (a = b)) := eqd_list (gl := gl_eg9_1) (ok := fun _ => True) (fun _ _ => rfl) (fun a x l k y _ hy => by
 simp only [gl_eg9_1, idx_nat, hy, Option.bind_some, ptb]
 by_cases e : x = y <;> simp [e]) (fun _ _ => rfl) h (fun _ _ => trivial)
theorem i_EqPt {a b : List Pt} (h : a.length ≤ 1048576) : gf_dj9 a b = some (decide (a = b)) := eqd_list (gl := gl_dj9_1) (ok := fun _ => True) (fun _ _ => rfl) (fun a x l k y _ hy => by
 simp only [gl_dj9_1, idx_nat, hy, Option.bind_some, ptb]
 by_cases e : x = y <;> simp [e]) (fun _ _ => rfl) h (fun _ _ => trivial)
theorem s_l2Same {a b : List Tag} (h : a.length ≤ 1048576) : gf_ei9 a b = some (decide (a = b)) := eqd_list (gl := gl_ei9_1) (ok := fun _ => True) (fun _ _ => rfl) (fun a x l k y _ hy => by
 simp only [gl_ei9_1, idx_nat, hy, Option.bind_some, tagb]
 by_cases e : x = y <;> simp [e]) (fun _ _ => rfl) h (fun _ _ => trivial)
theorem i_EqTag {a b : List Tag} (h : a.length ≤ 1048576) : gf_dk9 a b = some (decide (a = b)) := eqd_list (gl := gl_dk9_1) (ok := fun _ => True) (fun _ _ => rfl) (fun a x l k y _ hy => by
 simp only [gl_dk9_1, idx_nat, hy, Option.bind_some, tagb]
 by_cases e : x = y <;> simp [e]) (fun _ _ => rfl) h (fun _ _ => trivial)
theorem s_l7Ints {a b : List Int} (h : a.length ≤ 1048576) : gf_es9 a b = some (decide (a = b)) := eqd_list (gl := gl_es9_1) (ok := fun _ => True) (fun _ _ => rfl) (fun a x l k y _ hy => by
 simp only [gl_es9_1, idx_nat, hy, Option.bind_some]
 by_cases e : x = y <;> simp [e]) (fun _ _ => rfl) h (fun _ _ => trivial)
theorem i_EqInt {a b : List Int} (h : a.length ≤ 1048576) : gf_dl9 a b = some (decide (a = b)) := eqd_list (gl := gl_dl9_1) (ok := fun _ => True) (fun _ _ => rfl) (fun a x l k y _ hy => by
 simp only [gl_dl9_1, idx_nat, hy, Option.bind_some]
 by_cases e : x = y <;> simp [e]) (fun _ _ => rfl) h (fun _ _ => trivial)
theorem s_ShapeSame {a b : Shape} (h : a.pts.length ≤ 1048576) : gf_dz9 a b = some (decide (a = b)) := by
 unfold gf_dz9
 rw [s_l1Same h]
 obtain ⟨k, p⟩ := a; obtain ⟨k2, p2⟩ := b
 by_cases h1 : k = k2 <;> by_cases h2 : p = p2 <;> simp [h1, h2]
theorem s_FeatSame {a b : Feat} (h : wFeat a ≤ 1048576) : gf_dv9 a b = some (decide (a = b)) := by
 unfold wFeat wShape wL at h
 unfold gf_dv9
 rw [s_ShapeSame (by omega), s_l2Same (by omega), seq_dec]
 obtain ⟨i, s, t⟩ := a; obtain ⟨i2, s2, t2⟩ := b
 by_cases h1 : i = i2 <;> by_cases h2 : s = s2 <;> by_cases h3 : t = t2 <;> simp [h1, h2, h3]
theorem i_ShapeSame {a b : Shape} (h : a.pts.length ≤ 1048576) : gf_am9 a b = some (decide (a = b)) := by
 unfold gf_am9
 rw [i_EqPt h]
 obtain ⟨k, p⟩ := a; obtain ⟨k2, p2⟩ := b
 by_cases h1 : k = k2 <;> by_cases h2 : p = p2 <;> simp [h1, h2]
theorem i_FeatSame {a b : Feat} (h : wFeat a ≤ 1048576) : gf_ad9 a b = some (decide (a = b)) := by
 unfold wFeat wShape wL at h
 unfold gf_ad9
 rw [i_ShapeSame (by omega), i_EqTag (by omega), seq_dec]
 obtain ⟨i, s, t⟩ := a; obtain ⟨i2, s2, t2⟩ := b
 by_cases h1 : i = i2 <;> by_cases h2 : s = s2 <;> by_cases h3 : t = t2 <;> simp [h1, h2, h3]
theorem s_SheetSame {a b : List Feat} (h : wL wFeat a ≤ 1048576) : gf_eb9 a b = some (decide (a = b)) := eqd_list (gl := gl_eb9_1) (ok := fun x => wFeat x ≤ 1048576) (fun _ _ => rfl) (fun a x l k y hx hy => by
 simp only [gl_eb9_1, idx_nat, hy, Option.bind_some, s_FeatSame hx]
 by_cases e : x = y <;> simp [e]) (fun _ _ => rfl) (by unfold wL at h; omega) (fun x hx => by have := sum_mem (w := wFeat) hx; unfold wL at h; omega)
theorem i_EqFeat {a b : List Feat} (h : wL wFeat a ≤ 1048576) : gf_di9 a b = some (decide (a = b)) := eqd_list (gl := gl_di9_1) (ok := fun x => wFeat x ≤ 1048576) (fun _ _ => rfl) (fun a x l k y hx hy => by
 simp only [gl_di9_1, idx_nat, hy, Option.bind_some, i_FeatSame hx]
 by_cases e : x = y <;> simp [e]) (fun _ _ => rfl) (by unfold wL at h; omega) (fun x hx => by have := sum_mem (w := wFeat) hx; unfold wL at h; omega)
theorem i_SheetSame {a b : List Feat} (h : wL wFeat a ≤ 1048576) : gf_ao9 a b = some (decide (a = b)) := by
 unfold gf_ao9
 rw [i_EqFeat h]
 rfl
theorem s_sameCommit {a b : Commit} (h : wCommit a ≤ 1048576) : gf_et9 a b = some (decide (a = b)) := by
 unfold wCommit at h
 unfold gf_et9
 rw [s_l7Ints (by unfold wL at h; omega), s_SheetSame (by omega), seq_dec]
 obtain ⟨i, s, t⟩ := a; obtain ⟨i2, s2, t2⟩ := b
 by_cases h1 : i = i2 <;> by_cases h2 : s = s2 <;> by_cases h3 : t = t2 <;> simp [h1, h2, h3]
theorem i_sameCommit {a b : Commit} (h : wCommit a ≤ 1048576) : gf_aw9 a b = some (decide (a = b)) := by
 unfold wCommit at h
 unfold gf_aw9
 rw [i_EqInt (by unfold wL at h; omega), i_SheetSame (by omega), seq_dec]
 obtain ⟨i, s, t⟩ := a; obtain ⟨i2, s2, t2⟩ := b
 by_cases h1 : i = i2 <;> by_cases h2 : s = s2 <;> by_cases h3 : t = t2 <;> simp [h1, h2, h3]
theorem s_l7Find {r : Repo} {c : Commit} (h : wL wCommit r.commits ≤ 1048576) : gf_eq9 r c = some (mFind r.commits c) := by
 unfold gf_eq9 mFind
 rw [if_pos (fits_small (by unfold wL at h; omega))]
 exact loopF (gl := gl_eq9_1 c) (ok := fun x => wCommit x ≤ 1048576) (fun _ => rfl) (fun x l k hx => by simp only [gl_eq9_1, s_sameCommit hx, Option.bind_some]) _ 0 fun x hx => by have := sum_mem (w := wCommit) hx; unfold wL at h; omega
theorem i_Repo_commit {r : Repo} {c : Commit} (h : wL wCommit r.commits ≤ 1048576) : gf_ag9 r c = some (mFind r.commits c) := by
 have key : gf_dn9 r.commits c = some (mFind r.commits c) := by
  unfold gf_dn9 mFind
  rw [if_pos (fits_small (by unfold wL at h; omega))]
  exact loopF (gl := gl_dn9_1 c) (ok := fun x => wCommit x ≤ 1048576) (fun _ => rfl) (fun x l k hx => by simp only [gl_dn9_1, gf_ah9, i_sameCommit hx, Option.bind_some]) _ 0 fun x hx => by have := sum_mem (w := wCommit) hx; unfold wL at h; omega
 unfold gf_ag9
 rw [key]
 rfl
theorem s_l7Head {r : Repo} {n : Str} (h : r.heads.length ≤ 1048576) : gf_er9 r n = some (mHead r.heads n) := by
 unfold gf_er9 mHead
 rw [if_pos (fits_small h)]
 exact loopF (gl := gl_er9_1 n) (ok := fun _ => True) (fun _ => rfl) (fun x l k _ => by simp only [gl_er9_1, seq_dec]) _ 0 fun _ _ => trivial
theorem i_Repo_head {r : Repo} {n : Str} (h : r.heads.length ≤ 1048576) : gf_ai9 r n = some (mHead r.heads n) := by
 have key : gf_dr9 r.heads n = some (mHead r.heads n) := by
  unfold gf_dr9 mHead
  rw [if_pos (fits_small h)]
  exact loopF (gl := gl_dr9_1 n) (ok := fun _ => True) (fun _ => rfl) (fun x l k _ => by simp only [gl_dr9_1, gf_aj9, seq_dec, Option.bind_some]) _ 0 fun _ _ => trivial
 unfold gf_ai9
 rw [key]
 rfl
theorem s_l7Up {up : List Int} {k : Nat} (h : up.length ≤ 1048576) : gf_eu9 up (k : Int) = some (mUp up k) := by
 unfold gf_eu9 mUp
 rw [if_pos (fits_small h), loopB (gl := gl_eu9_1 (k : Int)) (p := fun (x : Int) _ => decide (0 ≤ x) && decide (x < (k : Int))) (xs := up) (fun _ => rfl) (fun x l j _ => ?_) up 0 rfl]
 ·generalize allFrom (fun (x : Int) _ => decide (0 ≤ x) && decide (x < (k : Int))) up 0 = A
  cases A
  ·rfl
  ·have e1 : decide ((k : Int) > 0) = decide (0 < k) := posI
   match up with
   | [] => cases e : decide (0 < k) <;> simp [e1, e]
   | [a] => cases e : decide (0 < k) <;> simp [e1, e]
   | [a, b] =>
    have i0 : idx [a, b] 0 = some a := rfl
    have i1 : idx [a, b] 1 = some b := rfl
    by_cases e2 : a = b
    ·subst e2
     cases e : decide (0 < k) <;> simp [e1, e, i0, i1]
    ·cases e : decide (0 < k) <;> simp [e1, e, i0, i1, e2]
   | a :: b :: c :: l =>
    have e2 : ¬ ((l.length : Int) + 1 + 1 + 1 ≤ 2) := by omega
    simp [e2]
 ·have e1 : (x ≥ (k : Int)) ↔ ¬ x < (k : Int) := by omega
  have e2 : (x < 0) ↔ ¬ 0 ≤ x := by omega
  simp only [gl_eu9_1, e1, e2]
  by_cases h1 : 0 ≤ x <;> by_cases h2 : x < (k : Int) <;> simp [h1, h2]
theorem s_RepoOk {r : Repo} (h : wRepo r ≤ 1048576) : gf_dx9 r = some (mRepo r) := by
 unfold wRepo at h
 have hc : wL wCommit r.commits ≤ 1048576 := by omega
 have hh : wL wHead r.heads ≤ 1048576 := by omega
 have hcl : r.commits.length ≤ 1048576 := by unfold wL at hc; omega
 have hhl : r.heads.length ≤ 1048576 := by unfold wL at hh; omega
 have c1 : ((r.commits.length : Int) < 1) ↔ ¬ 1 ≤ r.commits.length := by omega
 have c2 : ((r.commits.length : Int) > 14) ↔ ¬ r.commits.length ≤ 14 := by omega
 have c3 : ((r.heads.length : Int) < 1) ↔ ¬ 1 ≤ r.heads.length := by omega
 have c4 : ((r.heads.length : Int) > 4) ↔ ¬ r.heads.length ≤ 4 := by omega
 have k1 : gl_dx9_1 r r.commits 0 = some (if mCommits r.commits = true then .inr () else .inl false) := by
  refine loopB (gl := gl_dx9_1 r) (p := fun c k => mUp c.up k && (mSheet c.sheet && (mWord c.note && decide (mFind r.commits c = (k : Int))))) (xs := r.commits) (fun _ => rfl) (fun x l k hd => ?_) r.commits 0 rfl
  have hx : x ∈ r.commits := List.mem_of_getElem? (drop_get hd)
  have hs := sum_mem (w := wCommit) hx
  have e0 : wCommit x = wL w0 x.up + (wL wFeat x.sheet + (x.note.size + 0)) := rfl
  have hs' : wCommit x ≤ 1048576 := by unfold wL at hc; omega
  have hu : x.up.length ≤ 1048576 := by have : wL w0 x.up = x.up.length + sumW w0 x.up := rfl; omega
  simp only [gl_dx9_1, s_l7Up hu, s_SheetOk (fs := x.sheet) (by omega), s_WordOk (s := x.note) (by omega), s_l7Find hc, Option.bind_some]
  by_cases e : mFind r.commits x = (k : Int) <;> cases mUp x.up k <;> cases mSheet x.sheet <;> cases mWord x.note <;> simp [e]
 have k2 : gl_dx9_2 r r.heads 0 = some (if mHeads r.commits.length r.heads = true then .inr () else .inl false) := by
  refine loopB (gl := gl_dx9_2 r) (p := fun h k => mWord h.name && (decide (mHead r.heads h.name = (k : Int)) && (decide (0 ≤ h.at_) && decide (h.at_ < (r.commits.length : Int))))) (xs := r.heads) (fun _ => rfl) (fun x l k hd => ?_) r.heads 0 rfl
  have hx : x ∈ r.heads := List.mem_of_getElem? (drop_get hd)
  have hs := sum_mem (w := wHead) hx
  have e0 : wHead x = x.name.size + 0 := rfl
  have hs' : x.name.size ≤ 1048576 := by unfold wL at hh; omega
  have d1 : (x.at_ < 0) ↔ ¬ 0 ≤ x.at_ := by omega
  have d2 : (x.at_ ≥ (r.commits.length : Int)) ↔ ¬ x.at_ < (r.commits.length : Int) := by omega
  simp only [gl_dx9_2, s_WordOk hs', s_l7Head hhl, Option.bind_some, d1, d2]
  by_cases e : mHead r.heads x.name = (k : Int) <;> by_cases e1 : 0 ≤ x.at_ <;> by_cases e2 : x.at_ < (r.commits.length : Int) <;> cases mWord x.name <;> simp [e, e1, e2]
 unfold gf_dx9 mRepo
 rw [k1, k2, if_pos (fits_small hcl), if_pos (fits_small hhl)]
 simp only [c1, c2, c3, c4]
 by_cases h1 : 1 ≤ r.commits.length <;> by_cases h2 : r.commits.length ≤ 14 <;> by_cases h3 : 1 ≤ r.heads.length <;> by_cases h4 : r.heads.length ≤ 4 <;> cases mCommits r.commits <;> cases mHeads r.commits.length r.heads <;> simp [h1, h2, h3, h4]
theorem i_version {r : Repo} {k : Int} (h : r.commits.length ≤ 1048576) : gf_ak9 r k = some (decide (0 ≤ k) && decide (k < (r.commits.length : Int))) := by
 unfold gf_ak9
 rw [wrap_id (by omega) (by omega), i_within]
 have e : (k ≤ (r.commits.length : Int) - 1) ↔ k < (r.commits.length : Int) := by omega
 simp [e]
theorem i_Contains0 (x : Int) : gf_dg9 [] x = some false := rfl
theorem i_Contains1 (a x : Int) : gf_dg9 [a] x = some (decide (x = a)) := by
 have hf : fits 1 = true := fits_small (by omega)
 by_cases e : x = a
 ·subst e
  simp [gf_dg9, gf_ds9, hf, gl_ds9_1]
 ·simp [gf_dg9, gf_ds9, hf, gl_ds9_1, e]
theorem i_up5 {c : Commit} {k : Nat} (hk : k ≤ 1048576) (h : c.up.length ≤ 2) : gl_af9_5 k c c.up 0 = some (if (allFrom (fun (x : Int) _ => decide (0 ≤ x) && decide (x < (k : Int))) c.up 0 && decide (c.up[0]? = none ∨ c.up[0]? ≠ c.up[1]?)) = true then .inr () else .inl false) := by
 have hw : IntKind.i64.wrap ((k : Int) - 1) = (k : Int) - 1 := wrap_id (by omega) (by omega)
 have hi : ∀ x : Int, (x ≤ (k : Int) - 1) ↔ x < (k : Int) := fun x => by omega
 obtain ⟨up, sh, nt⟩ := c
 match up, h with
 | [], _ => rfl
 | [a], _ =>
  have s0 : slc [a] 0 ((0 : Nat) : Int) = some [] := by simp [slc]
  simp only [gl_af9_5, i_within, hw, hi, Option.bind_some, s0, i_Contains0, allFrom]
  by_cases h1 : 0 ≤ a <;> by_cases h2 : a < (k : Int) <;> simp [h1, h2]
 | [a, b], _ =>
  have s0 : slc [a, b] 0 ((0 : Nat) : Int) = some [] := by simp [slc]
  have s1 : slc [a, b] 0 ((0 + 1 : Nat) : Int) = some [a] := by simp [slc]
  simp only [gl_af9_5, i_within, hw, hi, Option.bind_some, s0, s1, i_Contains0, i_Contains1, allFrom]
  by_cases e : b = a
  ·subst e
   by_cases h1 : 0 ≤ b <;> by_cases h2 : b < (k : Int) <;> simp [h1, h2]
  ·have e' : ¬ a = b := fun h => e h.symm
   by_cases h1 : 0 ≤ a <;> by_cases h2 : a < (k : Int) <;> by_cases h3 : 0 ≤ b <;> by_cases h4 : b < (k : Int) <;> simp [h1, h2, h3, h4, e, e']
 | _ :: _ :: _ :: _, h => simp at h
theorem i_RepoOk {r : Repo} (h : wRepo r ≤ 1048576) : gf_af9 r = some (mRepo r) := by
 unfold wRepo at h
 have hc : wL wCommit r.commits ≤ 1048576 := by omega
 have hh : wL wHead r.heads ≤ 1048576 := by omega
 have hcl : r.commits.length ≤ 1048576 := by unfold wL at hc; omega
 have hhl : r.heads.length ≤ 1048576 := by unfold wL at hh; omega
 have c1 : ((1 : Int) ≤ r.commits.length) ↔ 1 ≤ r.commits.length := by omega
 have c2 : ((r.commits.length : Int) ≤ 14) ↔ r.commits.length ≤ 14 := by omega
 have c3 : ((1 : Int) ≤ r.heads.length) ↔ 1 ≤ r.heads.length := by omega
 have c4 : ((r.heads.length : Int) ≤ 4) ↔ r.heads.length ≤ 4 := by omega
 have k1 : gl_af9_4 r r.commits 0 = some (if mCommits r.commits = true then .inr () else .inl false) := by
  refine loopB (gl := gl_af9_4 r) (p := fun c k => mUp c.up k && (mSheet c.sheet && (mWord c.note && decide (mFind r.commits c = (k : Int))))) (xs := r.commits) (fun _ => rfl) (fun x l k hd => ?_) r.commits 0 rfl
  have hx : x ∈ r.commits := List.mem_of_getElem? (drop_get hd)
  have hkl := drop_len hd
  have hs := sum_mem (w := wCommit) hx
  have e0 : wCommit x = wL w0 x.up + (wL wFeat x.sheet + (x.note.size + 0)) := rfl
  have hs' : wCommit x ≤ 1048576 := by unfold wL at hc; omega
  have hu : x.up.length ≤ 1048576 := by have : wL w0 x.up = x.up.length + sumW w0 x.up := rfl; omega
  have d1 : (((k : Int) == 0) == ((x.up.length : Int) == 0)) = (decide (0 < x.up.length) == decide (0 < k)) := by
   rw [zI, zI, posD, posD]
   cases decide (k = 0) <;> cases decide (x.up.length = 0) <;> rfl
  have d2 : ((x.up.length : Int) > 2) ↔ ¬ x.up.length ≤ 2 := by omega
  obtain ⟨B, hB⟩ : ∃ B, (decide (0 < x.up.length) == decide (0 < k)) = B := ⟨_, rfl⟩
  rw [hB] at d1
  simp only [gl_af9_4, i_SheetOk (fs := x.sheet) (by omega), i_WordOk (s := x.note) (by omega), i_Repo_commit hc, Option.bind_some, d1, d2, mUp, hB]
  clear d1 hB
  by_cases b : x.up.length ≤ 2
  ·rw [i_up5 (by omega) b, if_pos (fits_small hu)]
   obtain ⟨D, hD⟩ : ∃ D, (decide (x.up[0]? = none ∨ x.up[0]? ≠ x.up[1]?)) = D := ⟨_, rfl⟩
   rw [hD]
   clear hD
   by_cases e : mFind r.commits x = (k : Int) <;> cases B <;> cases mSheet x.sheet <;> cases mWord x.note <;> cases allFrom (fun (x : Int) _ => decide (0 ≤ x) && decide (x < (k : Int))) x.up 0 <;> cases D <;> simp [e, b]
  ·by_cases e : mFind r.commits x = (k : Int) <;> cases B <;> cases mSheet x.sheet <;> cases mWord x.note <;> simp [e, b]
 have k2 : gl_af9_6 r r.heads 0 = some (if mHeads r.commits.length r.heads = true then .inr () else .inl false) := by
  refine loopB (gl := gl_af9_6 r) (p := fun h k => mWord h.name && (decide (mHead r.heads h.name = (k : Int)) && (decide (0 ≤ h.at_) && decide (h.at_ < (r.commits.length : Int))))) (xs := r.heads) (fun _ => rfl) (fun x l k hd => ?_) r.heads 0 rfl
  have hx : x ∈ r.heads := List.mem_of_getElem? (drop_get hd)
  have hs := sum_mem (w := wHead) hx
  have e0 : wHead x = x.name.size + 0 := rfl
  have hs' : x.name.size ≤ 1048576 := by unfold wL at hh; omega
  simp only [gl_af9_6, i_WordOk hs', i_Repo_head hhl, i_version hcl, Option.bind_some]
  by_cases e : mHead r.heads x.name = (k : Int) <;> by_cases e1 : 0 ≤ x.at_ <;> by_cases e2 : x.at_ < (r.commits.length : Int) <;> cases mWord x.name <;> simp [e, e1, e2]
 unfold gf_af9 mRepo
 rw [k1, k2, if_pos (fits_small hcl), if_pos (fits_small hhl), i_within, i_within]
 simp only [c1, c2, c3, c4, Option.bind_some]
 by_cases h1 : 1 ≤ r.commits.length <;> by_cases h2 : r.commits.length ≤ 14 <;> by_cases h3 : 1 ≤ r.heads.length <;> by_cases h4 : r.heads.length ≤ 4 <;> cases mCommits r.commits <;> cases mHeads r.commits.length r.heads <;> simp [h1, h2, h3, h4]
def kM : Int := 4398046511104
theorem bstr1 (n : Int) : (bstr [n]).size = 1 := rfl
theorem cat_some {a b : Str} (h : a.size + b.size ≤ 1000) : ∃ t, cat a b = some t ∧ t.size = a.size + b.size := ⟨a ++ b, by unfold cat; rw [if_pos (by omega)], by simp⟩
theorem markText_loop : ∀ (m n w : Nat) (s : Str), w < 10 ^ m → m ≤ 18 → m < n → s.size + m ≤ 100 → ∃ t, gl_cf9_1 n (w : Int) s = some t ∧ t.size ≤ s.size + m
 | m, 0, w, s, _, _, h, _ => by omega
 | 0, n + 1, w, s, h1, _, _, _ => by
  have : w = 0 := by simpa using h1
  subst this
  exact ⟨s, rfl, by omega⟩
 | m + 1, n + 1, w, s, h1, h2, h3, h4 => by
  simp only [gl_cf9_1]
  by_cases hv : 0 < w
  ·rw [if_pos (by simpa using hv)]
   have hd : Int.tdiv (w : Int) 10 = ((w / 10 : Nat) : Int) := by
    rw [Int.tdiv_eq_ediv_of_nonneg (by omega)]
    rfl
   have hlt : w / 10 < 10 ^ m := by
    rw [Nat.pow_succ] at h1
    exact Nat.div_lt_of_lt_mul (by rw [Nat.mul_comm]; exact h1)
   have h5 : (10 : Nat) ^ m ≤ 10 ^ 18 := Nat.pow_le_pow_right (by decide) (by omega)
   have h6 : (10 : Nat) ^ 18 = 1000000000000000000 := by decide
   obtain ⟨t, ht, hs⟩ := cat_some (a := bstr [(IntKind.u8.wrap (IntKind.i64.wrap (48 + (Int.tmod (w : Int) 10))))]) (b := s) (by rw [bstr1]; omega)
   rw [bstr1] at hs
   rw [ht, hd, wrap_id (by omega) (by omega)]
   simp only [Option.bind_some]
   obtain ⟨t2, h7, h8⟩ := markText_loop m n (w / 10) t hlt (by omega) (by omega) (by omega)
   exact ⟨t2, h7, by omega⟩
  ·rw [if_neg (by simpa using hv)]
   exact ⟨s, rfl, by omega⟩
theorem markText_ok {k : Int} (h : k ≤ kM) : ∃ t, gf_cf9 k = some t := by
 unfold gf_cf9
 by_cases h0 : k ≤ 0
 ·exact ⟨_, by rw [if_pos (by simpa using h0)]⟩
 ·rw [if_neg (by simpa using h0)]
  have e : k = ((k.toNat : Nat) : Int) := by omega
  have hz : (⟨#[]⟩ : Str).size = 0 := rfl
  have hm : (⟨#[109]⟩ : Str).size = 1 := rfl
  have hr : rounds = 4194303 + 1 := rfl
  obtain ⟨t, h1, h2⟩ := markText_loop 18 rounds k.toNat (⟨#[]⟩ : Str) (by
   have : (10 : Nat) ^ 18 = 1000000000000000000 := by decide
   unfold kM at h
   omega) (by omega) (by rw [hr]; omega) (by rw [hz]; omega)
  rw [← e] at h1
  obtain ⟨t2, h3, _⟩ := cat_some (a := (⟨#[109]⟩ : Str)) (b := t) (by rw [hm]; omega)
  exact ⟨t2, by rw [h1]; simp only [Option.bind_some, h3]⟩
theorem mk_loop {α : Type} {gl : Nat → Int → Int → List α → Option (Int × List α)} {hl : List α → Nat → Int → Int → Prop} {c w : α → Nat} (h0 : ∀ n k xs, gl (n + 1) k (xs.length : Int) xs = some (k, xs)) (hE : ∀ x k, w x ≤ 3145728 → 0 < k → k + c x ≤ kM → ∃ y, (∀ n (i : Nat) xs, xs[i]? = some x → i < 3145728 → gl (n + 1) k (i : Int) xs = gl n (k + c x) ((i + 1 : Nat) : Int) (xs.set i y)) ∧ ∀ l j K, hl l (j + 1) (k + c x) K → hl (y :: l) j k K) (hn : ∀ j k, hl [] j k k) :
  ∀ (rest pre : List α) (n : Nat) (k : Int), (∀ x ∈ rest, w x ≤ 3145728) → rest.length < n → pre.length + rest.length ≤ 3145728 → 0 < k → k + sumW c rest ≤ kM → ∃ rest', rest'.length = rest.length ∧ gl n k (pre.length : Int) (pre ++ rest) = some (k + sumW c rest, pre ++ rest') ∧ ∀ j, hl rest' j k (k + sumW c rest)
 | _, _, 0, _, _, h, _, _, _ => by omega
 | [], pre, n + 1, k, _, _, _, _, _ => ⟨[], rfl, by simpa [sumW] using h0 n k pre, fun j => by simpa [sumW] using hn j k⟩
 | x :: rest, pre, n + 1, k, hw, hl1, hlen, hk, hb => by
  have hs : sumW c (x :: rest) = c x + sumW c rest := rfl
  rw [hs] at hb ⊢
  obtain ⟨y, h1, h2⟩ := hE x k (hw x (by simp)) hk (by omega)
  simp only [List.length_cons] at hl1 hlen
  obtain ⟨r, h3, h4, h5⟩ := mk_loop h0 hE hn rest (pre ++ [y]) n (k + c x) (fun z hz => hw z (by simp [hz])) (by omega) (by simp; omega) (by omega) (by omega)
  have e0 : k + (((c x + sumW c rest : Nat)) : Int) = k + c x + sumW c rest := by omega
  refine ⟨y :: r, by simp [h3], ?_, fun j => by rw [e0]; exact h2 r j _ (h5 (j + 1))⟩
  rw [h1 n pre.length (pre ++ x :: rest) (by simp) (by omega)]
  have e1 : (pre ++ x :: rest).set pre.length y = pre ++ [y] ++ rest := by simp
  have e2 : ((pre.length + 1 : Nat) : Int) = ((pre ++ [y]).length : Int) := by simp
  rw [e1, e2, h4]
  simp only [List.append_assoc, List.singleton_append, Option.some.injEq, Prod.mk.injEq, and_true]
  omega
def c1 {α : Type} (_ : α) : Nat := 1
def c2 {α : Type} (_ : α) : Nat := 2
def noh {α : Type} (_ : List α) (_ : Nat) (_ _ : Int) : Prop := True
theorem mk_list {α : Type} {gf : List α → Int → Option (Int × List α)} {gl : Nat → Int → Int → List α → Option (Int × List α)} {hl : List α → Nat → Int → Int → Prop} {c w : α → Nat} (hg : ∀ a k, gf a k = (gl rounds k 0 a).bind fun q => some (q.1, q.2)) (h0 : ∀ n k xs, gl (n + 1) k (xs.length : Int) xs = some (k, xs)) (hE : ∀ x k, w x ≤ 3145728 → 0 < k → k + c x ≤ kM → ∃ y, (∀ n (i : Nat) xs, xs[i]? = some x → i < 3145728 → gl (n + 1) k (i : Int) xs = gl n (k + c x) ((i + 1 : Nat) : Int) (xs.set i y)) ∧ ∀ l j K, hl l (j + 1) (k + c x) K → hl (y :: l) j k K) (hn : ∀ j k, hl [] j k k) : ∀ x k, wL w x ≤ 3145728 → 0 < k → k + sumW c x ≤ kM → ∃ y, gf x k = some (k + sumW c x, y) ∧ y.length = x.length ∧ hl y 0 k (k + sumW c x) := fun x k hw hk hb => by
 have hr : rounds = 4194303 + 1 := rfl
 have hlen : x.length ≤ 3145728 := by unfold wL at hw; omega
 obtain ⟨r, h1, h2, h3⟩ := mk_loop h0 hE hn x [] rounds k (fun y hy => by have := sum_mem (w := w) hy; unfold wL at hw; omega) (by rw [hr]; omega) (by simpa using hlen) hk hb
 refine ⟨r, ?_, h1, h3 0⟩
 rw [hg]
 simp only [List.nil_append, List.length_nil] at h2
 have h2' : gl rounds k 0 x = some (k + sumW c x, r) := h2
 rw [h2']
 rfl
theorem mw {k : Int} (h : 0 < k) (h2 : k ≤ kM) : IntKind.i64.wrap (k + 1) = k + 1 := by unfold kM at h2; exact wrap_id (by omega) (by omega)
theorem miw {i : Nat} (h : i < 3145728) : IntKind.i64.wrap ((i : Int) + 1) = ((i + 1 : Nat) : Int) := by rw [wrap_id (by omega) (by omega)]; omega
theorem lt_dec {α : Type} {xs : List α} {i : Nat} {x : α} (h : xs[i]? = some x) : decide ((i : Int) < (xs.length : Int)) = true := decide_eq_true (by have := get_lt h; omega)
theorem set_get {α : Type} {xs : List α} {i : Nat} {x y : α} (h : xs[i]? = some x) : (xs.set i y)[i]? = some y := List.getElem?_set_self (get_lt h)
theorem ge_dec {n : Nat} : decide ((n : Int) < (n : Int)) = false := decide_eq_false (by omega)
def hlInt (l : List Int) (j : Nat) (k K : Int) : Prop := gl_bt9_1 l j k = some (.inr K)
theorem sum_c1 {α : Type} : ∀ l : List α, sumW (c1 (α := α)) l = l.length := fun l => by
 induction l with
 | nil => rfl
 | cons x l ih => simp only [sumW, ih, c1, List.length_cons]; omega
theorem mk_IntS {x : List Int} {k : Int} (hw : x.length ≤ 3145728) (hk : 0 < k) (hb : k + x.length ≤ kM) : ∃ y, gf_cb9 x k = some (k + x.length, y) ∧ y.length = x.length ∧ gf_bt9 y k = some (k + x.length) := by
 obtain ⟨y, h1, h2, h3⟩ := mk_list (gf := gf_cb9) (hl := hlInt) (c := c1) (w := w0) (fun _ _ => rfl) (fun n k xs => by simp only [gl_cb9_1, ge_dec]; rfl) (fun x k _ hk hb => ⟨k, fun n i xs hx hi => by
  unfold c1 at hb ⊢
  simp only [gl_cb9_1, lt_dec hx, if_true, idx_nat, hx, Option.bind_some, mw hk (by omega), miw hi, Int.toNat_natCast, Int.natCast_one], fun l j K h => by
  unfold c1 at h hb
  unfold hlInt at h ⊢
  simp only [gl_bt9_1, bne_self_eq_false, mw hk (by omega)]
  rw [if_neg (by decide)]
  simpa only [Int.natCast_one] using h⟩) (fun j k => rfl) x k (by unfold wL; rw [sum_w0]; exact hw) hk (by rw [sum_c1]; exact hb)
 rw [sum_c1] at h1 h3
 refine ⟨y, h1, h2, ?_⟩
 unfold hlInt at h3
 unfold gf_bt9
 rw [if_pos (fits_mid (by omega)), h3]
 rfl
def cFeat (f : Feat) : Nat := 2 + (sumW c2 f.shape.pts + sumW c2 f.tags)
def cCommit (c : Commit) : Nat := sumW c1 c.up + (sumW cFeat c.sheet + 1)
def cRepo (r : Repo) : Nat := sumW cCommit r.commits + sumW c2 r.heads
theorem mkn_IntS {x : List Int} {k : Int} (hw : wL w0 x ≤ 3145728) (hk : 0 < k) (hb : k + sumW c1 x ≤ kM) : ∃ y, gf_cb9 x k = some (k + sumW c1 x, y) := by
 obtain ⟨y, h, _⟩ := mk_list (gf := gf_cb9) (hl := noh) (c := c1) (w := w0) (fun _ _ => rfl) (fun n k xs => by simp only [gl_cb9_1, ge_dec]; rfl) (fun x k _ hk hb => ⟨k, fun n i xs hx hi => by
  unfold c1 at hb ⊢
  simp only [gl_cb9_1, lt_dec hx, if_true, idx_nat, hx, Option.bind_some, mw hk (by omega), miw hi, Int.toNat_natCast, Int.natCast_one], fun _ _ _ _ => trivial⟩) (fun _ _ => trivial) x k hw hk hb
 exact ⟨y, h⟩
theorem two_k {k : Int} : k + ((2 : Nat) : Int) = k + 1 + 1 := by omega
theorem mkn_PtS {x : List Pt} {k : Int} (hw : wL w0 x ≤ 3145728) (hk : 0 < k) (hb : k + sumW c2 x ≤ kM) : ∃ y, gf_cc9 x k = some (k + sumW c2 x, y) := by
 obtain ⟨y, h, _⟩ := mk_list (gf := gf_cc9) (hl := noh) (c := c2) (w := w0) (fun _ _ => rfl) (fun n k xs => by simp only [gl_cc9_1, ge_dec]; rfl) (fun x k _ hk hb => by
  unfold c2 at hb ⊢
  refine ⟨⟨k, k + 1⟩, fun n i xs hx hi => ?_, fun _ _ _ _ => trivial⟩
  simp only [gl_cc9_1, lt_dec hx, if_true, idx_nat, hx, Option.bind_some, mw hk (by omega), mw (show 0 < k + 1 by omega) (by omega), miw hi, Int.toNat_natCast, set_get hx, List.set_set, two_k]) (fun _ _ => trivial) x k hw hk hb
 exact ⟨y, h⟩
theorem mkn_TagS {x : List Tag} {k : Int} (hw : wL wTag x ≤ 3145728) (hk : 0 < k) (hb : k + sumW c2 x ≤ kM) : ∃ y, gf_ce9 x k = some (k + sumW c2 x, y) := by
 obtain ⟨y, h, _⟩ := mk_list (gf := gf_ce9) (hl := noh) (c := c2) (w := wTag) (fun _ _ => rfl) (fun n k xs => by simp only [gl_ce9_1, ge_dec]; rfl) (fun x k _ hk hb => by
  unfold c2 at hb ⊢
  obtain ⟨t1, h1⟩ := markText_ok (k := k) (by omega)
  obtain ⟨t2, h2⟩ := markText_ok (k := k + 1) (by omega)
  refine ⟨⟨t1, t2⟩, fun n i xs hx hi => ?_, fun _ _ _ _ => trivial⟩
  simp only [gl_ce9_1, lt_dec hx, if_true, idx_nat, hx, h1, h2, Option.bind_some, mw hk (by omega), mw (show 0 < k + 1 by omega) (by omega), miw hi, Int.toNat_natCast, set_get hx, List.set_set, two_k]) (fun _ _ => trivial) x k hw hk hb
 exact ⟨y, h⟩
theorem mkn_HeadS {x : List Head} {k : Int} (hw : wL wHead x ≤ 3145728) (hk : 0 < k) (hb : k + sumW c2 x ≤ kM) : ∃ y, gf_ca9 x k = some (k + sumW c2 x, y) := by
 obtain ⟨y, h, _⟩ := mk_list (gf := gf_ca9) (hl := noh) (c := c2) (w := wHead) (fun _ _ => rfl) (fun n k xs => by simp only [gl_ca9_1, ge_dec]; rfl) (fun x k _ hk hb => by
  unfold c2 at hb ⊢
  obtain ⟨t1, h1⟩ := markText_ok (k := k) (by omega)
  refine ⟨⟨t1, k + 1⟩, fun n i xs hx hi => ?_, fun _ _ _ _ => trivial⟩
  simp only [gl_ca9_1, lt_dec hx, if_true, idx_nat, hx, h1, Option.bind_some, mw hk (by omega), mw (show 0 < k + 1 by omega) (by omega), miw hi, Int.toNat_natCast, set_get hx, List.set_set, two_k]) (fun _ _ => trivial) x k hw hk hb
 exact ⟨y, h⟩
theorem mkn_FeatS {x : List Feat} {k : Int} (hw : wL wFeat x ≤ 3145728) (hk : 0 < k) (hb : k + sumW cFeat x ≤ kM) : ∃ y, gf_bz9 x k = some (k + sumW cFeat x, y) := by
 obtain ⟨y, h, _⟩ := mk_list (gf := gf_bz9) (hl := noh) (c := cFeat) (w := wFeat) (fun _ _ => rfl) (fun n k xs => by simp only [gl_bz9_1, ge_dec]; rfl) (fun x k hwx hk hb => by
  unfold cFeat at hb ⊢
  unfold wFeat wShape at hwx
  obtain ⟨t1, h1⟩ := markText_ok (k := k) (by omega)
  obtain ⟨p, h2⟩ := mkn_PtS (x := x.shape.pts) (k := k + 1 + 1) (by omega) (by omega) (by omega)
  obtain ⟨q, h3⟩ := mkn_TagS (x := x.tags) (k := k + 1 + 1 + sumW c2 x.shape.pts) (by omega) (by omega) (by omega)
  refine ⟨⟨t1, ⟨k + 1, p⟩, q⟩, fun n i xs hx hi => ?_, fun _ _ _ _ => trivial⟩
  simp only [gl_bz9_1, lt_dec hx, if_true, idx_nat, hx, h1, h2, h3, Option.bind_some, mw hk (by omega), mw (show 0 < k + 1 by omega) (by omega), miw hi, Int.toNat_natCast, set_get hx, List.set_set]
  congr 1
  omega) (fun _ _ => trivial) x k hw hk hb
 exact ⟨y, h⟩
theorem mkn_CommitS {x : List Commit} {k : Int} (hw : wL wCommit x ≤ 3145728) (hk : 0 < k) (hb : k + sumW cCommit x ≤ kM) : ∃ y, gf_bx9 x k = some (k + sumW cCommit x, y) := by
 obtain ⟨y, h, _⟩ := mk_list (gf := gf_bx9) (hl := noh) (c := cCommit) (w := wCommit) (fun _ _ => rfl) (fun n k xs => by simp only [gl_bx9_1, ge_dec]; rfl) (fun x k hwx hk hb => by
  unfold cCommit at hb ⊢
  unfold wCommit at hwx
  obtain ⟨p, h2⟩ := mkn_IntS (x := x.up) (k := k) (by omega) (by omega) (by omega)
  obtain ⟨q, h3⟩ := mkn_FeatS (x := x.sheet) (k := k + sumW c1 x.up) (by omega) (by omega) (by omega)
  obtain ⟨t1, h1⟩ := markText_ok (k := k + sumW c1 x.up + sumW cFeat x.sheet) (by omega)
  refine ⟨⟨p, q, t1⟩, fun n i xs hx hi => ?_, fun _ _ _ _ => trivial⟩
  simp only [gl_bx9_1, lt_dec hx, if_true, idx_nat, hx, h1, h2, h3, Option.bind_some, mw (show 0 < k + sumW c1 x.up + sumW cFeat x.sheet by omega) (by omega), miw hi, Int.toNat_natCast, set_get hx, List.set_set]
  congr 1
  omega) (fun _ _ => trivial) x k hw hk hb
 exact ⟨y, h⟩
theorem mkn_Repo {x : Repo} {k : Int} (hw : wRepo x ≤ 3145728) (hk : 0 < k) (hb : k + cRepo x ≤ kM) : ∃ y, gf_cd9 x k = some (k + cRepo x, y) := by
 unfold cRepo at hb ⊢
 unfold wRepo at hw
 obtain ⟨p, h2⟩ := mkn_CommitS (x := x.commits) (k := k) (by omega) (by omega) (by omega)
 obtain ⟨q, h3⟩ := mkn_HeadS (x := x.heads) (k := k + sumW cCommit x.commits) (by omega) (by omega) (by omega)
 refine ⟨⟨p, q⟩, ?_⟩
 unfold gf_cd9
 simp only [h2, h3, Option.bind_some, Option.some.injEq, Prod.mk.injEq, and_true]
 omega
theorem sum_le {α : Type} {c w : α → Nat} {a : Nat} (h : ∀ x, c x ≤ a + a * w x) : ∀ xs : List α, sumW c xs ≤ a * wL w xs
 | [] => by simp [sumW]
 | x :: xs => by
  have ih := sum_le h xs
  have := h x
  unfold wL at ih ⊢
  simp only [sumW, List.length_cons]
  have e : a * (xs.length + 1 + (w x + sumW w xs)) = a + a * w x + a * (xs.length + sumW w xs) := by
   rw [show xs.length + 1 + (w x + sumW w xs) = 1 + w x + (xs.length + sumW w xs) by omega, Nat.mul_add, Nat.mul_add, Nat.mul_one]
  omega
theorem cFeat_le (f : Feat) : cFeat f ≤ 2 + 2 * wFeat f := by
 have h1 := sum_le (c := c2) (w := w0) (a := 2) (fun x => by unfold c2; omega) f.shape.pts
 have h2 := sum_le (c := c2) (w := wTag) (a := 2) (fun x => by unfold c2; omega) f.tags
 unfold cFeat wFeat wShape
 omega
theorem cCommit_le (c : Commit) : cCommit c ≤ 2 + 2 * wCommit c := by
 have h1 := sum_le (c := c1) (w := w0) (a := 2) (fun x => by unfold c1; omega) c.up
 have h2 := sum_le (c := cFeat) (w := wFeat) (a := 2) (fun x => by have := cFeat_le x; omega) c.sheet
 unfold cCommit wCommit
 omega
theorem cRepo_le (r : Repo) : cRepo r ≤ 2 * wRepo r := by
 have h1 := sum_le (c := cCommit) (w := wCommit) (a := 2) (fun x => by have := cCommit_le x; omega) r.commits
 have h2 := sum_le (c := c2) (w := wHead) (a := 2) (fun x => by unfold c2; omega) r.heads
 unfold cRepo wRepo
 omega
theorem ne_dec {n : Int} (h : 0 < n) : decide (n < 0) = false := decide_eq_false (by omega)
theorem mkh_IntS {x : List Int} {k : Int} (hw : wL w0 x ≤ 3145728) (hk : 0 < k) (hb : k + sumW c1 x ≤ kM) : ∃ y, gf_cb9 x k = some (k + sumW c1 x, y) ∧ gf_bt9 y k = some (k + sumW c1 x) := by
 rw [sum_c1] at hb ⊢
 obtain ⟨y, h1, h2, h3⟩ := mk_IntS (x := x) (k := k) (by unfold wL at hw; omega) hk hb
 exact ⟨y, h1, h3⟩
theorem mkh_PtS {x : List Pt} {k : Int} (hw : wL w0 x ≤ 3145728) (hk : 0 < k) (hb : k + sumW c2 x ≤ kM) : ∃ y, gf_cc9 x k = some (k + sumW c2 x, y) ∧ gf_bu9 y k = some (k + sumW c2 x) := by
 obtain ⟨y, h, h2, h3⟩ := mk_list (gf := gf_cc9) (hl := fun l j k K => gl_bu9_1 l j k = some (.inr K)) (c := c2) (w := w0) (fun _ _ => rfl) (fun n k xs => by simp only [gl_cc9_1, ge_dec]; rfl) (fun x k _ hk hb => by
  unfold c2 at hb ⊢
  refine ⟨⟨k, k + 1⟩, fun n i xs hx hi => ?_, fun l j K hl => ?_⟩
  ·simp only [gl_cc9_1, lt_dec hx, if_true, idx_nat, hx, Option.bind_some, mw hk (by omega), mw (show 0 < k + 1 by omega) (by omega), miw hi, Int.toNat_natCast, set_get hx, List.set_set, two_k]
  ·rw [two_k] at hl
   simp only [gl_bu9_1, bne_self_eq_false, mw hk (by omega), mw (show 0 < k + 1 by omega) (by omega)]
   exact hl) (fun _ _ => rfl) x k hw hk hb
 refine ⟨y, h, ?_⟩
 unfold gf_bu9
 rw [if_pos (fits_mid (by unfold wL at hw; omega)), h3]
 rfl
theorem mkh_TagS {x : List Tag} {k : Int} (hw : wL wTag x ≤ 3145728) (hk : 0 < k) (hb : k + sumW c2 x ≤ kM) : ∃ y, gf_ce9 x k = some (k + sumW c2 x, y) ∧ gf_bv9 y k = some (k + sumW c2 x) := by
 obtain ⟨y, h, h2, h3⟩ := mk_list (gf := gf_ce9) (hl := fun l j k K => gl_bv9_1 l j k = some (.inr K)) (c := c2) (w := wTag) (fun _ _ => rfl) (fun n k xs => by simp only [gl_ce9_1, ge_dec]; rfl) (fun x k _ hk hb => by
  unfold c2 at hb ⊢
  obtain ⟨t1, h1⟩ := markText_ok (k := k) (by omega)
  obtain ⟨t2, h2⟩ := markText_ok (k := k + 1) (by omega)
  refine ⟨⟨t1, t2⟩, fun n i xs hx hi => ?_, fun l j K hl => ?_⟩
  ·simp only [gl_ce9_1, lt_dec hx, if_true, idx_nat, hx, h1, h2, Option.bind_some, mw hk (by omega), mw (show 0 < k + 1 by omega) (by omega), miw hi, Int.toNat_natCast, set_get hx, List.set_set, two_k]
  ·rw [two_k] at hl
   simp only [gl_bv9_1, seq_self, Bool.not_true, h1, h2, Option.bind_some, mw hk (by omega), mw (show 0 < k + 1 by omega) (by omega)]
   exact hl) (fun _ _ => rfl) x k hw hk hb
 refine ⟨y, h, ?_⟩
 unfold gf_bv9
 rw [if_pos (fits_mid (by unfold wL at hw; omega)), h3]
 rfl
theorem cpa_loop {α : Type} {g : α → Option α} {gl : List α → Nat → List α → Option (List α)} (h0 : ∀ k v, gl [] k v = some v) (h1 : ∀ x l k v, gl (x :: l) k v = (g x).bind fun y => if fits (v ++ [y]).length = true then gl l (k + 1) (v ++ [y]) else none) : ∀ (l : List α) (k : Nat) (v : List α), (∀ x ∈ l, g x = some x) → v.length + l.length ≤ 1048576 → gl l k v = some (v ++ l)
 | [], k, v, _, _ => by rw [h0]; simp
 | x :: l, k, v, hx, hl => by
  simp only [List.length_cons] at hl
  rw [h1, hx x (by simp)]
  simp only [Option.bind_some]
  rw [if_pos (fits_small (by simp; omega)), cpa_loop h0 h1 l (k + 1) _ (fun y hy => hx y (by simp [hy])) (by simp; omega)]
  simp
theorem s_l2Copy {f : Feat} (h : wFeat f ≤ 1048576) : gf_eh9 f = some f := by
 unfold wFeat wShape wL at h
 unfold gf_eh9 gf_ed9
 rw [if_pos (fits_small (by simp; omega))]
 simp only [Option.bind_some]
 rw [if_pos (fits_small (by simp; omega))]
 rfl
theorem i_cloneFeat {f : Feat} (h : wFeat f ≤ 1048576) : gf_aq9 f = some f := by
 unfold wFeat wShape wL at h
 unfold gf_aq9 gf_ar9
 rw [if_pos (fits_small (by simp; omega))]
 simp only [Option.bind_some]
 rw [if_pos (fits_small (by simp; omega))]
 rfl
def cnt (m : List Bool) : Nat → Nat
 | 0 => 0
 | k + 1 => cnt m k + (if trueAt m k = true then 1 else 0)
def newUp (m : List Bool) (c : Commit) : Commit := ⟨c.up.map fun u => (cnt m u.toNat : Int), c.sheet, c.note⟩
def sweepC (m : List Bool) : List Commit → Nat → List Commit
 | [], _ => []
 | x :: l, k => if trueAt m k = true then newUp m x :: sweepC m l (k + 1) else sweepC m l (k + 1)
def setAtH (hs : List Head) (k : Nat) (h : Head) (v : Int) : List Head := hs.set k ⟨h.name, v⟩
def mAdd (r : Repo) (n : Str) (s : List Feat) (t : Str) : Repo × Int :=
 if (mRepo r && (mSheet s && mWord t)) = true then
  (match idx r.heads (mHead r.heads n) with
  | none => (r, 1)
  | some h => match idx r.commits h.at_ with
   | none => (r, 1)
   | some x => if x.sheet = s then (r, 3) else
    if mFind r.commits ⟨[h.at_], s, t⟩ < 0 then
     (if r.commits.length = 14 then (r, 2) else (⟨r.commits ++ [⟨[h.at_], s, t⟩], setAtH r.heads (mHead r.heads n).toNat h r.commits.length⟩, 0))
    else (⟨r.commits, setAtH r.heads (mHead r.heads n).toNat h (mFind r.commits ⟨[h.at_], s, t⟩)⟩, 0))
 else (⟨[], []⟩, 4)
theorem sumW_set {α : Type} {w : α → Nat} : ∀ (xs : List α) (k : Nat) (x y : α), xs[k]? = some x → w y ≤ w x → sumW w (xs.set k y) ≤ sumW w xs
 | [], k, x, y, h, _ => by simp at h
 | z :: xs, 0, x, y, h, hw => by
  simp only [List.getElem?_cons_zero, Option.some.injEq] at h
  subst h
  simp only [List.set_cons_zero, sumW]
  omega
 | z :: xs, k + 1, x, y, h, hw => by
  have := sumW_set xs k x y (by simpa using h) hw
  simp only [List.set_cons_succ, sumW]
  omega
theorem setAtH_w {hs : List Head} {n : Str} {h : Head} {v : Int} (hh : idx hs (mHead hs n) = some h) : wL wHead (setAtH hs (mHead hs n).toNat h v) ≤ wL wHead hs := by
 have h1 := (idx_get hh).2
 have := sumW_set (w := wHead) hs _ h ⟨h.name, v⟩ h1 (Nat.le_refl _)
 unfold wL setAtH
 simp only [List.length_set]
 omega
theorem sumW_app1 {α : Type} {w : α → Nat} : ∀ (a : List α) (x : α), sumW w (a ++ [x]) = sumW w a + w x
 | [], x => by simp [sumW]
 | y :: a, x => by simp only [List.cons_append, sumW, sumW_app1 a x]; omega
theorem mAdd_w {r : Repo} {n t : Str} {s : List Feat} : wRepo (mAdd r n s t).1 ≤ wRepo r + (2 + (wL wFeat s + t.size)) := by
 unfold mAdd
 split
 ·split
  ·simp only; omega
  ·rename_i h hh
   split
   ·simp only; omega
   ·split
    ·simp only; omega
    ·split
     ·split
      ·simp only; omega
      ·have := setAtH_w (v := (r.commits.length : Int)) hh
       simp only [wRepo]
       have e : wL wCommit (r.commits ++ [⟨[h.at_], s, t⟩]) = wL wCommit r.commits + (1 + wCommit ⟨[h.at_], s, t⟩) := by
        unfold wL
        rw [sumW_app1]
        simp
        omega
       have e2 : wCommit ⟨[h.at_], s, t⟩ = 1 + (wL wFeat s + (t.size + 0)) := by unfold wCommit; simp [wL, sumW, w0]
       omega
     ·have := setAtH_w (v := mFind r.commits ⟨[h.at_], s, t⟩) hh
      simp only [wRepo]
      omega
 ·have : wRepo ⟨[], []⟩ = 0 := rfl
  simp only [this]
  omega
theorem sum_le2 {α : Type} {w : α → Nat} {n : Nat} : ∀ {xs : List α}, (∀ x ∈ xs, w x ≤ n) → sumW w xs ≤ n * xs.length
 | [], h => by simp [sumW]
 | x :: xs, h => by
  have h1 := h x (by simp)
  have h2 := sum_le2 (xs := xs) (n := n) fun y hy => h y (by simp [hy])
  simp only [sumW, List.length_cons, Nat.mul_add, Nat.mul_one]
  omega
abbrev onS : Str := ⟨#[111, 110]⟩
def nt (s : Str) : Prop := s.size ≤ 7 ∧ s ≠ onS
theorem allF {α : Type} {p : α → Nat → Bool} {l : List α} {k : Nat} (h : allFrom p l k = true) {x : α} (hx : x ∈ l) : ∃ j, p x j = true := by
 obtain ⟨j, hj⟩ := List.getElem?_of_mem hx
 exact ⟨_, allFrom_get h j x hj⟩
theorem mWord_size {s : Str} (h : mWord s = true) : s.size ≤ 7 := by
 simp only [mWord, Bool.and_eq_true, decide_eq_true_eq] at h
 omega
theorem trueAt_lt {m : List Bool} {k : Nat} (h : trueAt m k = true) : k < m.length := by
 unfold trueAt at h
 rcases Nat.lt_or_ge k m.length with h1 | h1
 ·exact h1
 ·rw [List.getElem?_eq_none h1] at h
  cases h
theorem cnt_mono {m : List Bool} {a : Nat} : ∀ {b : Nat}, a ≤ b → cnt m a ≤ cnt m b
 | 0, h => by
  have : a = 0 := by omega
  subst this; exact Nat.le_refl _
 | b + 1, h => by
  rcases Nat.eq_or_lt_of_le h with rfl | h
  ·exact Nat.le_refl _
  ·have := cnt_mono (m := m) (a := a) (b := b) (by omega)
   simp only [cnt]
   omega
theorem sweepC_len {m : List Bool} : ∀ {l : List Commit} {k : Nat}, (sweepC m l k).length + cnt m k = cnt m (k + l.length)
 | [], k => by simp [sweepC]
 | x :: l, k => by
  have ih := sweepC_len (m := m) (l := l) (k := k + 1)
  simp only [cnt] at ih
  rw [List.length_cons, show k + (l.length + 1) = k + 1 + l.length by omega]
  simp only [sweepC]
  split
  ·rename_i h
   rw [if_pos h] at ih
   simp only [List.length_cons]
   omega
  ·rename_i h
   rw [if_neg h] at ih
   omega
theorem sweepC_get {m : List Bool} : ∀ {l : List Commit} {k j : Nat} {x : Commit}, l[j]? = some x → trueAt m (k + j) = true → (sweepC m l k)[cnt m (k + j) - cnt m k]? = some (newUp m x)
 | [], k, j, x, h, _ => by simp at h
 | y :: l, k, 0, x, h, ht => by
  simp only [List.getElem?_cons_zero, Option.some.injEq] at h
  subst h
  simp only [Nat.add_zero] at ht
  simp [sweepC, ht]
 | y :: l, k, j + 1, x, h, ht => by
  rw [show k + (j + 1) = k + 1 + j by omega] at ht ⊢
  have ih := sweepC_get (m := m) (l := l) (k := k + 1) (j := j) (by simpa using h) ht
  have hm := cnt_mono (m := m) (a := k + 1) (b := k + 1 + j) (by omega)
  simp only [cnt] at ih hm
  simp only [sweepC]
  split
  ·rename_i hk
   rw [if_pos hk] at ih hm
   rw [show cnt m (k + 1 + j) - cnt m k = cnt m (k + 1 + j) - (cnt m k + 1) + 1 by omega, List.getElem?_cons_succ]
   exact ih
  ·rename_i hk
   rw [if_neg hk] at ih
   exact ih
theorem cnt_hit {m : List Bool} : ∀ {n j : Nat}, j < cnt m n → ∃ k, k < n ∧ trueAt m k = true ∧ cnt m k = j
 | 0, j, h => by simp [cnt] at h
 | n + 1, j, h => by
  by_cases hn : j < cnt m n
  ·obtain ⟨k, h1, h2, h3⟩ := cnt_hit hn
   exact ⟨k, by omega, h2, h3⟩
  ·simp only [cnt] at h
   split at h
   ·rename_i ht
    exact ⟨n, by omega, ht, by omega⟩
   ·omega
structure Kept (cs : List Commit) (m : List Bool) : Prop where
 hist : Hist cs
 len : m.length = cs.length
 up : ∀ k x u, cs[k]? = some x → trueAt m k = true → u ∈ x.up → trueAt m u.toNat = true
section
variable {cs : List Commit} {m : List Bool}
theorem Kept.get (h : Kept cs m) {k : Nat} (hk : trueAt m k = true) : ∃ x, cs[k]? = some x ∧ (sweepC m cs 0)[cnt m k]? = some (newUp m x) := by
 obtain ⟨x, hx⟩ := getI (xs := cs) (i := k) (by rw [← h.len]; exact trueAt_lt hk)
 have := sweepC_get (m := m) (l := cs) (k := 0) (j := k) hx (by simpa using hk)
 simp only [Nat.zero_add, cnt, Nat.sub_zero] at this
 exact ⟨x, hx, this⟩
theorem Kept.tot (h : Kept cs m) : (sweepC m cs 0).length = cnt m cs.length := by
 have := sweepC_len (m := m) (l := cs) (k := 0)
 simp only [Nat.zero_add, cnt] at this
 exact this
theorem Kept.from (h : Kept cs m) {j : Nat} {y : Commit} (hy : (sweepC m cs 0)[j]? = some y) : ∃ k x, trueAt m k = true ∧ cnt m k = j ∧ cs[k]? = some x ∧ y = newUp m x := by
 have := get_lt hy
 rw [h.tot] at this
 obtain ⟨k, h1, h2, h3⟩ := cnt_hit this
 obtain ⟨x, h4, h5⟩ := h.get h2
 rw [h3, hy] at h5
 exact ⟨k, x, h2, h3, h4, Option.some.inj h5⟩
end
structure Added (r : Repo) (n t : Str) (s : List Feat) (i : Nat) (z : Head) (x : Commit) (q : Repo) (k : Nat) : Prop where
 repo : mRepo r = true
 sheet : mSheet s = true
 word : mWord t = true
 hd : mHead r.heads n = (i : Int)
 at_ : r.heads[i]? = some z
 name : z.name = n
 was : r.commits[z.at_.toNat]? = some x
 ge : 0 ≤ z.at_
 ne : x.sheet ≠ s
 eq : mAdd r n s t = (q, 0)
 heads : q.heads = r.heads.set i ⟨z.name, (k : Int)⟩
 comm : (q.commits = r.commits ∧ k < r.commits.length) ∨ (q.commits = r.commits ++ [⟨[z.at_], s, t⟩] ∧ k = r.commits.length ∧ r.commits.length < 14)
 get : q.commits[k]? = some ⟨[z.at_], s, t⟩
 repo' : mRepo q = true
section
variable {r q : Repo} {n t : Str} {s : List Feat} {i k : Nat} {z : Head} {x : Commit}
theorem Added.w (h : Added r n t s i z x q k) (hw : wRepo r ≤ 1000000) (hs : wL wFeat s ≤ 20000) (ht : t.size ≤ 7) : wRepo q ≤ wRepo r + 20010 := by
 have h1 := mAdd_w (r := r) (n := n) (t := t) (s := s)
 rw [h.eq] at h1
 simp only at h1
 omega
theorem Added.pre (h : Added r n t s i z x q k) : q.commits.take r.commits.length = r.commits := by
 rcases h.comm with ⟨h1, _⟩ | ⟨h1, _⟩ <;> rw [h1] <;> simp
end
section
variable {r q : Repo} {n t : Str} {s : List Feat} {i k : Nat} {z : Head} {x : Commit}
end
def nF : Feat := ⟨⟨#[]⟩, ⟨0, []⟩, []⟩
theorem fst_find {α : Type} {p : α → Bool} : ∀ (l : List α) (k : Nat), (l.find? p = none ∧ fstFrom p l k = -1) ∨ ∃ j x, l.find? p = some x ∧ fstFrom p l k = ((k + j : Nat) : Int) ∧ l[j]? = some x ∧ p x = true
 | [], k => .inl ⟨rfl, rfl⟩
 | y :: l, k => by
  simp only [List.find?_cons, fstFrom]
  cases hp : p y
  ·rcases fst_find (p := p) l (k + 1) with ⟨h1, h2⟩ | ⟨j, x, h1, h2, h3, h4⟩
   ·exact .inl ⟨h1, by simpa using h2⟩
   ·exact .inr ⟨j + 1, x, h1, by simp only [h2]; simp; omega, h3, h4⟩
  ·exact .inr ⟨0, y, rfl, by simp, rfl, hp⟩
def mSide (s : List Feat) (id : Str) : Feat × Bool := match s.find? (fun f : Feat => decide (f.id = id)) with
 | some f => (f, true)
 | none => (nF, false)
theorem i_featAt {s : List Feat} {id : Str} (hl : s.length ≤ 1048576) : gf_as9 s id = some (fstFrom (fun f : Feat => decide (f.id = id)) s 0) := by
 unfold gf_as9 gf_dp9
 have h := loopF (gl := gl_dp9_1 id) (p := fun f : Feat => decide (f.id = id)) (ok := fun _ => True) (fun _ => rfl) (fun x l k _ => by simp only [gl_dp9_1, gf_at9, seq_dec, Option.bind_some]) s 0 (fun _ _ => trivial)
 rw [if_pos (fits_small hl)]
 exact (congrArg (fun o => Option.bind o fun x2 => some x2) h)
theorem s_l3Find {s : List Feat} {id : Str} (hl : s.length ≤ 1048576) : gf_ek9 s id = some (fstFrom (fun f : Feat => decide (f.id = id)) s 0) := by
 unfold gf_ek9
 have h := loopF (gl := gl_ek9_1 id) (p := fun f : Feat => decide (f.id = id)) (ok := fun _ => True) (fun _ => rfl) (fun x l k _ => by simp only [gl_ek9_1, seq_dec]) s 0 (fun _ _ => trivial)
 rw [if_pos (fits_small hl)]
 exact h
theorem i_side {s : List Feat} {id : Str} (h : wL wFeat s ≤ 1048576) : gf_ax9 s id = some (mSide s id) := by
 have hl : s.length ≤ 1048576 := by unfold wL at h; omega
 unfold gf_ax9 mSide
 rw [i_featAt hl, Option.bind_some]
 rcases fst_find (p := fun f : Feat => decide (f.id = id)) s 0 with ⟨h1, h2⟩ | ⟨j, x, h1, h2, h3, h4⟩
 ·rw [h1, h2]; rfl
 ·have hx := sum_mem (w := wFeat) (List.mem_of_getElem? h3)
  rw [h1, h2, if_neg (by simp), idx_nat, Nat.zero_add, h3, Option.bind_some, i_cloneFeat (by unfold wL at h; omega)]
  rfl
theorem s_l4Side {s : List Feat} {id : Str} (h : wL wFeat s ≤ 1048576) : gf_ep9 s id = some (mSide s id) := by
 have hl : s.length ≤ 1048576 := by unfold wL at h; omega
 unfold gf_ep9 mSide
 rw [s_l3Find hl, Option.bind_some]
 rcases fst_find (p := fun f : Feat => decide (f.id = id)) s 0 with ⟨h1, h2⟩ | ⟨j, x, h1, h2, h3, h4⟩
 ·rw [h1, h2]; rfl
 ·have hx := sum_mem (w := wFeat) (List.mem_of_getElem? h3)
  rw [h1, h2, if_neg (by simp), idx_nat, Nat.zero_add, h3, Option.bind_some, s_l2Copy (by unfold wL at h; omega)]
  rfl
theorem i_Change_same {c : Change} (h : wChange c ≤ 1048576) : gf_aa9 c = some ((c.had == c.has) && decide (c.was = c.now)) := by
 unfold wChange at h
 unfold gf_aa9
 rw [i_FeatSame (by omega)]
 cases c.had <;> cases c.has <;> simp
def mCutF (s : List Feat) (id : Str) : List Feat := s.filter fun y => !decide (y.id = id)
def mPut (f : Feat) : List Feat → List Feat
 | [] => [f]
 | x :: l => if slt x.id f.id = true then x :: mPut f l else f :: mCutF (x :: l) f.id
theorem slt_ne {a b : Str} (h : slt a b = true) : a ≠ b := fun e => by
 rw [e, slt_sw.irrefl] at h
 cases h
theorem mCutF_cons {x : Feat} {l : List Feat} {id : Str} : mCutF (x :: l) id = if x.id = id then mCutF l id else x :: mCutF l id := by
 unfold mCutF
 rw [List.filter_cons]
 by_cases h : x.id = id <;> simp [h]
theorem put_done {f : Feat} : ∀ (l : List Feat) (k : Nat) (v : List Feat), v.length + l.length ≤ 1048576 → gl_el9_1 f l k true v = some (true, v ++ mCutF l f.id)
 | [], k, v, _ => by simp [gl_el9_1, mCutF]
 | x :: l, k, v, h => by
  simp only [List.length_cons] at h
  simp only [gl_el9_1, seq_dec, Bool.not_true, Bool.false_eq_true, if_false, Option.bind_some]
  rw [mCutF_cons]
  by_cases e : x.id = f.id
  ·rw [if_neg (by simp [e]), put_done l (k + 1) v (by omega), if_pos e]
  ·rw [if_pos (by simp [e]), if_pos (fits_small (by simp; omega)), put_done l (k + 1) _ (by simp; omega), if_neg e]
   simp
theorem put_todo {f : Feat} : ∀ (l : List Feat) (k : Nat) (v : List Feat), v.length + l.length + 1 ≤ 1048576 → ∃ d o, gl_el9_1 f l k false v = some (d, o) ∧ (if d = true then o else o ++ [f]) = v ++ mPut f l
 | [], k, v, _ => ⟨false, v, rfl, by simp [mPut]⟩
 | x :: l, k, v, h => by
  simp only [List.length_cons] at h
  simp only [gl_el9_1, seq_dec, Bool.not_false, if_true, mPut]
  by_cases e : slt x.id f.id = true
  ·have hn := slt_ne e
   obtain ⟨d, o, h1, h2⟩ := put_todo l (k + 1) (v ++ [x]) (by simp; omega)
   refine ⟨d, o, ?_, by rw [h2, if_pos e]; simp⟩
   rw [if_neg (by simp [e]), Option.bind_some]
   simp only
   rw [if_pos (by simp [hn]), if_pos (fits_small (by simp; omega)), h1]
  ·rw [if_pos (by simpa using e), if_pos (fits_small (by simp; omega)), Option.bind_some]
   simp only
   rw [if_neg e, mCutF_cons]
   by_cases e2 : x.id = f.id
   ·rw [if_neg (by simp [e2]), put_done l (k + 1) _ (by simp; omega), if_pos e2]
    exact ⟨true, _, rfl, by simp⟩
   ·rw [if_pos (by simp [e2]), if_pos (fits_small (by simp; omega)), put_done l (k + 1) _ (by simp; omega), if_neg e2]
    exact ⟨true, _, rfl, by simp⟩
theorem mPut_len {f : Feat} : ∀ (l : List Feat), (mPut f l).length ≤ l.length + 1
 | [] => by simp [mPut]
 | x :: l => by
  have := mPut_len (f := f) l
  have h2 : (mCutF (x :: l) f.id).length ≤ (x :: l).length := List.length_filter_le _ _
  unfold mPut
  split
  ·simp only [List.length_cons]; omega
  ·simp only [List.length_cons] at h2 ⊢; omega
theorem s_l3Put {s : List Feat} {f : Feat} (h : s.length + 1 ≤ 1048576) : gf_el9 s f = some (mPut f s) := by
 obtain ⟨d, o, h1, h2⟩ := put_todo (f := f) s 0 [] (by simp; omega)
 have h3 := mPut_len (f := f) s
 simp only [List.nil_append] at h2
 unfold gf_el9
 rw [if_pos (fits_small (by omega)), h1, Option.bind_some]
 cases d
 ·simp only [Bool.not_false, if_true]
  simp only [Bool.false_eq_true, if_false] at h2
  rw [if_pos (fits_small (by rw [h2]; omega)), h2]
 ·simp only [if_true] at h2
  simp [h2]
def Pw (v : List Feat) : Prop := v.Pairwise fun a b => slt a.id b.id = true
theorem mPut_mem {f : Feat} : ∀ {l : List Feat} {y : Feat}, y ∈ mPut f l → y = f ∨ y ∈ l
 | [], y, h => by simpa [mPut] using h
 | x :: l, y, h => by
  unfold mPut at h
  split at h
  ·rcases List.mem_cons.1 h with h | h
   ·exact .inr (by simp [h])
   ·rcases mPut_mem h with h | h
    ·exact .inl h
    ·exact .inr (by simp [h])
  ·rcases List.mem_cons.1 h with h | h
   ·exact .inl h
   ·exact .inr (List.mem_filter.1 h).1
theorem mPut_pw {f : Feat} : ∀ {l : List Feat}, Pw l → Pw (mPut f l)
 | [], _ => by simp [mPut, Pw]
 | x :: l, h => by
  unfold Pw at h
  rw [List.pairwise_cons] at h
  unfold mPut
  by_cases e : slt x.id f.id = true
  ·rw [if_pos e]
   unfold Pw
   rw [List.pairwise_cons]
   refine ⟨fun y hy => ?_, mPut_pw h.2⟩
   rcases mPut_mem hy with rfl | hy
   ·exact e
   ·exact h.1 y hy
  ·rw [if_neg e]
   unfold Pw
   rw [List.pairwise_cons]
   refine ⟨fun y hy => ?_, List.Pairwise.filter _ (List.pairwise_cons.2 h)⟩
   obtain ⟨hy, hn⟩ := List.mem_filter.1 hy
   simp only [Bool.not_eq_true', decide_eq_false_iff_not] at hn
   have hf : slt x.id f.id = false := by simpa using e
   have hxy : slt y.id f.id = false := by
    rcases List.mem_cons.1 hy with rfl | hy
    ·exact hf
    ·cases h2 : slt y.id f.id
     ·rfl
     ·rw [slt_sw.trans _ _ _ (h.1 y hy) h2] at hf; cases hf
   cases h3 : slt f.id y.id
   ·exact absurd (slt_anti hxy h3) hn
   ·rfl
theorem mPut_perm {f : Feat} : ∀ {l : List Feat}, (mPut f l).Perm (f :: mCutF l f.id)
 | [] => by simp [mPut, mCutF]
 | x :: l => by
  unfold mPut
  by_cases e : slt x.id f.id = true
  ·rw [if_pos e, mCutF_cons, if_neg (slt_ne e)]
   exact (List.Perm.cons x mPut_perm).trans (List.Perm.swap f x _)
  ·rw [if_neg e]
theorem mSheet_pw {s : List Feat} (h : mSheet s = true) : Pw s := by
 unfold mSheet at h
 rw [Bool.and_eq_true] at h
 have key : ∀ k x y, s[k]? = some x → s[k + 1]? = some y → slt x.id y.id = true := by
  intro k x y hx hy
  have := allFrom_get h.1 (k + 1) y hy
  simp only [Nat.zero_add, Bool.and_eq_true, Bool.or_eq_true, decide_eq_true_eq, mPrev, Nat.add_sub_cancel, hx] at this
  rcases this.2 with h | h
  ·omega
  ·exact h
 clear h
 induction s with
 | nil => exact List.Pairwise.nil
 | cons a s ih =>
  have ih := ih fun k x y hx hy => key (k + 1) x y hx hy
  unfold Pw
  rw [List.pairwise_cons]
  refine ⟨?_, ih⟩
  cases s with
  | nil => intro y hy; cases hy
  | cons b s =>
   have h1 := key 0 a b rfl rfl
   have ih2 := ih
   unfold Pw at ih2
   rw [List.pairwise_cons] at ih2
   intro y hy
   rcases List.mem_cons.1 hy with rfl | hy
   ·exact h1
   ·exact slt_sw.trans _ _ _ h1 (ih2.1 y hy)
theorem wL_cons {α : Type} {w : α → Nat} {x : α} {l : List α} : wL w (x :: l) = wL w l + (1 + w x) := by unfold wL; simp only [sumW, List.length_cons]; omega
theorem side_w {s : List Feat} {id : Str} : wFeat (mSide s id).1 ≤ wL wFeat s := by
 unfold mSide
 split
 ·rename_i f hf
  have := sum_mem (w := wFeat) (List.mem_of_find?_eq_some hf)
  unfold wL
  simp only
  omega
 ·exact Nat.zero_le _
theorem mFeat_w {f : Feat} (h : mFeat f = true) : wFeat f ≤ 100 := by
 unfold mFeat mShape mTags at h
 simp only [Bool.and_eq_true, decide_eq_true_eq] at h
 obtain ⟨h1, ⟨h2, h3, h4⟩, h5, h6⟩ := h
 have a1 := mWord_size h1
 have a2 : sumW wTag f.tags ≤ 14 * f.tags.length := sum_le2 fun t ht => by
  obtain ⟨j, hj⟩ := allF h5 ht
  simp only [Bool.and_eq_true] at hj
  have b1 := mWord_size hj.1
  have b2 := mWord_size hj.2.1
  unfold wTag
  omega
 have a3 := sum_w0 f.shape.pts
 unfold wFeat wShape wL
 omega
theorem mSheet_w {s : List Feat} (h : mSheet s = true) : wL wFeat s ≤ 1000 := by
 unfold mSheet at h
 rw [Bool.and_eq_true, decide_eq_true_eq] at h
 have a2 : sumW wFeat s ≤ 100 * s.length := sum_le2 fun t ht => by
  obtain ⟨j, hj⟩ := allF h.1 ht
  rw [Bool.and_eq_true] at hj
  exact mFeat_w hj.1
 unfold wL
 omega
def pWas (cs : List Commit) (up : List Int) : List Feat := match up with
 | [] => []
 | u :: _ => match cs[u.toNat]? with
  | some c => c.sheet
  | none => []
def pUp (up : List Int) (k : Nat) : Bool := allFrom (fun (x : Int) _ => decide (0 ≤ x) && decide (x < (k : Int))) up 0
theorem mUp_p {up : List Int} {k : Nat} (h : mUp up k = true) : pUp up k = true := by
 unfold mUp at h
 rw [Bool.and_eq_true] at h
 exact h.1
theorem mRepo_up {cs : List Commit} {hs : List Head} (h : mRepo ⟨cs, hs⟩ = true) : ∀ j c, cs[j]? = some c → mUp c.up j = true := by
 intro j c hj
 unfold mRepo mCommits at h
 simp only [Bool.and_eq_true] at h
 have := allFrom_get h.2.2.2.2.1 j c hj
 simp only [Nat.zero_add, Bool.and_eq_true] at this
 exact this.1
theorem s_l4Copy {c : Change} (h : wChange c ≤ 1048576) : gf_em9 c = some c := by
 unfold wChange at h
 unfold gf_em9
 rw [s_l2Copy (by omega), Option.bind_some, s_l2Copy (by omega)]
 rfl
theorem s_l9Diff {d : List Change} (h : wL wChange d ≤ 1048576) : gf_ev9 d = some d := by
 have hl : d.length ≤ 1048576 := by unfold wL at h; omega
 unfold gf_ev9
 rw [if_pos (fits_small hl), cpa_loop (gl := gl_ev9_1) (fun _ _ => rfl) (fun _ _ _ _ => rfl) d 0 [] (fun x hx => s_l4Copy (by have := sum_mem (w := wChange) hx; unfold wL at h; omega)) (by simpa using hl)]
 rfl
def SPw (v : List Str) : Prop := v.Pairwise fun a b => slt a b = true
theorem spw_nodup {v : List Str} (h : SPw v) : v.Nodup := List.Pairwise.imp (fun h => slt_ne h) h
theorem spw_one {a b : List Str} (ha : SPw a) (hb : SPw b) (h : ∀ x, x ∈ a ↔ x ∈ b) : a = b := by
 have hp : a.Perm b := (List.perm_ext_iff_of_nodup (spw_nodup ha) (spw_nodup hb)).2 h
 refine List.Perm.eq_of_pairwise (le := fun a b => slt a b = true) (fun x y _ _ g1 g2 => ?_) ha hb hp
 have := slt_sw.trans _ _ _ g1 g2
 rw [slt_sw.irrefl] at this
 cases this
theorem leS_trans (a b c : Str) : leS a b = true → leS b c = true → leS a c = true := by
 unfold leS
 simp only [Bool.not_eq_true']
 exact fun h1 h2 => slt_sw.ntrans _ _ _ h2 h1
theorem leS_total (a b : Str) : (leS a b || leS b a) = true := by
 unfold leS
 cases h : slt b a
 ·rfl
 ·cases h2 : slt a b
  ·rfl
  ·have := slt_sw.trans _ _ _ h h2
   rw [slt_sw.irrefl] at this
   cases this
theorem leS_lt {a b : Str} (h : leS a b = true) (hn : a ≠ b) : slt a b = true := by
 unfold leS at h
 cases h2 : slt a b
 ·exact absurd (slt_anti h2 (by simpa using h)) hn
 ·rfl
theorem le_slt {a b c : Str} (h : leS a b = true) (h2 : slt b c = true) : slt a c = true := by
 by_cases e : a = b
 ·rw [e]; exact h2
 ·exact slt_sw.trans _ _ _ (leS_lt h e) h2
theorem comp_mem {xs : List Str} {y : Str} : y ∈ Go.Lib.compact xs ↔ y ∈ xs := by
 unfold Go.Lib.compact Go.Lib.compactUpTo
 rw [List.mem_map]
 constructor
 ·rintro ⟨j, hj, rfl⟩
  rw [List.mem_filter, List.mem_range] at hj
  rw [getElem!_pos _ j (by simpa using hj.1)]
  simp
 ·intro h
  obtain ⟨j, hj⟩ := List.mem_iff_getElem?.1 h
  induction j using Nat.strongRecOn with
  | _ j ih =>
   have hl := (List.getElem?_eq_some_iff.1 hj).1
   have he := (List.getElem?_eq_some_iff.1 hj).2
   by_cases hk : j = 0 ∨ xs.toArray[j]! ≠ xs.toArray[j - 1]!
   ·refine ⟨j, ?_, ?_⟩
    ·rw [List.mem_filter, List.mem_range]
     exact ⟨hl, by unfold Go.Lib.keeps; exact decide_eq_true hk⟩
    ·rw [getElem!_pos _ j (by simpa using hl)]
     simpa using he
   ·have h0 : j ≠ 0 := fun e => hk (.inl e)
    have h1 : xs.toArray[j]! = xs.toArray[j - 1]! := Classical.not_not.1 fun e => hk (.inr e)
    rw [getElem!_pos _ j (by simpa using hl), getElem!_pos _ (j - 1) (by simp; omega)] at h1
    simp only [List.getElem_toArray] at h1
    refine ih (j - 1) (by omega) ?_
    rw [List.getElem?_eq_getElem (by omega), ← h1, he]
theorem comp_pw {xs : List Str} (h : xs.Pairwise fun a b => leS a b = true) : SPw (Go.Lib.compact xs) := by
 unfold Go.Lib.compact Go.Lib.compactUpTo SPw
 rw [List.pairwise_map, List.pairwise_filter]
 have hr := List.pairwise_lt_range (n := xs.length)
 refine List.Pairwise.imp_of_mem (fun {i j} hi hj hij _ hk => ?_) hr
 rw [List.mem_range] at hi hj
 rw [List.pairwise_iff_getElem] at h
 unfold Go.Lib.keeps at hk
 have hk := of_decide_eq_true hk
 rw [getElem!_pos _ i (by simpa using hi), getElem!_pos _ j (by simpa using hj)]
 rw [getElem!_pos _ j (by simpa using hj), getElem!_pos _ (j - 1) (by simp; omega)] at hk
 simp only [List.getElem_toArray] at hk ⊢
 have hne : xs[j] ≠ xs[j - 1] := by
  rcases hk with hk | hk
  ·omega
  ·exact hk
 have h1 : slt xs[j - 1] xs[j] = true := leS_lt (h (j - 1) j (by omega) hj (by omega)) (Ne.symm hne)
 by_cases e : i = j - 1
 ·subst e; exact h1
 ·exact le_slt (h i (j - 1) hi (by omega) (by omega)) h1
def mIds (a b : List Feat) : List Str := (b.foldl (fun v x => mPut x v) a).map (·.id)
theorem mPut_mem2 {f : Feat} : ∀ {l : List Feat} {i : Str}, i ∈ (mPut f l).map (·.id) ↔ i = f.id ∨ i ∈ l.map (·.id) := by
 intro l i
 have hp := (mPut_perm (f := f) (l := l)).map (·.id)
 rw [hp.mem_iff, List.map_cons, List.mem_cons]
 constructor
 ·rintro (h | h)
  ·exact .inl h
  ·obtain ⟨y, hy, e⟩ := List.mem_map.1 h
   exact .inr (List.mem_map.2 ⟨y, (List.mem_filter.1 hy).1, e⟩)
 ·rintro (h | h)
  ·exact .inl h
  ·by_cases e : i = f.id
   ·exact .inl e
   ·obtain ⟨y, hy, e2⟩ := List.mem_map.1 h
    refine .inr (List.mem_map.2 ⟨y, List.mem_filter.2 ⟨hy, ?_⟩, e2⟩)
    have : ¬ y.id = f.id := fun e3 => e (by rw [← e2, e3])
    simp [this]
theorem fold_mem : ∀ {b a : List Feat} {i : Str}, i ∈ (b.foldl (fun v x => mPut x v) a).map (·.id) ↔ i ∈ a.map (·.id) ∨ i ∈ b.map (·.id)
 | [], a, i => by simp
 | x :: b, a, i => by
  rw [List.foldl_cons, fold_mem, mPut_mem2, List.map_cons, List.mem_cons]
  constructor
  ·rintro ((h | h) | h)
   ·exact .inr (.inl h)
   ·exact .inl h
   ·exact .inr (.inr h)
  ·rintro (h | h | h)
   ·exact .inl (.inr h)
   ·exact .inl (.inl h)
   ·exact .inr h
theorem fold_pw : ∀ {b a : List Feat}, Pw a → Pw (b.foldl (fun v x => mPut x v) a)
 | [], a, h => h
 | x :: b, a, h => fold_pw (b := b) (mPut_pw h)
theorem mIds_pw {a b : List Feat} (h : Pw a) : SPw (mIds a b) := by
 unfold mIds SPw
 rw [List.pairwise_map]
 exact fold_pw h
theorem s_l4Ids' {a b : List Feat} (ha : a.length + b.length ≤ 1000) : gf_en9 a b = some (mIds a b) := by
 have k1 : ∀ (l : List Feat) (k : Nat) (v : List Feat), v.length + l.length ≤ 1000 → gl_en9_1 l k v = some (l.foldl (fun v x => mPut x v) v) ∧ (l.foldl (fun v x => mPut x v) v).length ≤ v.length + l.length := by
  intro l
  induction l with
  | nil => intro k v _; exact ⟨rfl, by simp⟩
  | cons x l ih =>
   intro k v h
   simp only [List.length_cons] at h
   have hp := mPut_len (f := x) v
   obtain ⟨h1, h2⟩ := ih (k + 1) (mPut x v) (by omega)
   exact ⟨by simp only [gl_en9_1, s_l3Put (s := v) (f := x) (by omega), Option.bind_some, h1, List.foldl_cons], by simp only [List.length_cons, List.foldl_cons]; omega⟩
 have k2 : ∀ (l : List Feat) (k : Nat) (v : List Str), v.length + l.length ≤ 1000 → gl_en9_2 l k v = some (v ++ l.map (·.id)) := by
  intro l
  induction l with
  | nil => intro k v _; simp [gl_en9_2]
  | cons x l ih =>
   intro k v h
   simp only [List.length_cons] at h
   simp only [gl_en9_2]
   rw [if_pos (fits_small (by simp; omega)), ih _ _ (by simp; omega)]
   simp
 obtain ⟨h1, h2⟩ := k1 b 0 a (by omega)
 unfold gf_en9
 rw [if_pos (fits_small (by omega)), h1, Option.bind_some, if_pos (fits_small (by omega)), k2 _ 0 [] (by simp; omega)]
 rfl
theorem i_names {a b : List Feat} (hp : Pw a) (ha : a.length + b.length ≤ 1000) : gf_au9 [a, b] = some (mIds a b) := by
 have k5 : ∀ (l : List Feat) (k : Nat) (v : List Str), v.length + l.length ≤ 1000 → gl_au9_5 l k v = some (v ++ l.map (·.id)) := by
  intro l
  induction l with
  | nil => intro k v _; simp [gl_au9_5]
  | cons x l ih =>
   intro k v h
   simp only [List.length_cons] at h
   simp only [gl_au9_5]
   rw [if_pos (fits_small (by simp; omega)), ih _ _ (by simp; omega)]
   simp
 have hm : ((a.map (·.id) ++ b.map (·.id)).mergeSort leS).length ≤ 1000 := by rw [List.length_mergeSort]; simpa using ha
 unfold gf_au9
 simp only [gl_au9_4, fits_small (n := [a, b].length) (by simp), fits_small (n := a.length) (by omega), fits_small (n := b.length) (by omega), k5 a 0 [] (by simp; omega), k5 b 0 (a.map (·.id)) (by simp; omega), if_true, Option.bind_some, List.nil_append, gf_dt9, sortS, fits_small (n := (a.map (·.id) ++ b.map (·.id)).length) (by simp; omega), gf_df9, compS, fits_small (n := ((a.map (·.id) ++ b.map (·.id)).mergeSort leS).length) (by omega)]
 congr 1
 refine spw_one (comp_pw (List.pairwise_mergeSort leS_trans leS_total _)) (mIds_pw hp) fun x => ?_
 rw [comp_mem, (List.mergeSort_perm _ leS).mem_iff, List.mem_append]
 unfold mIds
 exact (fold_mem (a := a) (b := b)).symm
def mCh (a b : List Feat) (i : Str) : Change := ⟨i, (mSide a i).2, (mSide a i).1, (mSide b i).2, (mSide b i).1⟩
def mDf (a b : List Feat) : List Change := (mIds a b).filterMap fun i => if mSide a i = mSide b i then none else some (mCh a b i)
theorem side_ne {x y : Feat × Bool} : x = y ↔ x.2 = y.2 ∧ x.1 = y.1 := by
 obtain ⟨a, b⟩ := x
 obtain ⟨c, d⟩ := y
 simp only [Prod.mk.injEq]
 exact and_comm
theorem df_loop {a b : List Feat} {gl : List Str → Nat → List Change → Option (List Change)} (h0 : ∀ k v, gl [] k v = some v) (h1 : ∀ x l k v, gl (x :: l) k v = if mSide a x = mSide b x then gl l (k + 1) v else if fits (v ++ [mCh a b x]).length = true then gl l (k + 1) (v ++ [mCh a b x]) else none) : ∀ (l : List Str) (k : Nat) (v : List Change), v.length + l.length ≤ 1000000 → gl l k v = some (v ++ l.filterMap fun i => if mSide a i = mSide b i then none else some (mCh a b i))
 | [], k, v, _ => by rw [h0]; simp
 | x :: l, k, v, h => by
  simp only [List.length_cons] at h
  rw [h1, List.filterMap_cons]
  by_cases e : mSide a x = mSide b x
  ·rw [if_pos e, if_pos e, df_loop h0 h1 l (k + 1) v (by omega)]
  ·rw [if_neg e, if_neg e, if_pos (fits_small (by simp; omega)), df_loop h0 h1 l (k + 1) _ (by simp; omega)]
   simp
theorem mIds_len {a b : List Feat} : (mIds a b).length ≤ a.length + b.length := by
 have key : ∀ (l v : List Feat), (l.foldl (fun v x => mPut x v) v).length ≤ v.length + l.length := by
  intro l
  induction l with
  | nil => intro v; simp
  | cons x l ih =>
   intro v
   have h1 := ih (mPut x v)
   have h2 := mPut_len (f := x) v
   simp only [List.foldl_cons, List.length_cons]
   omega
 unfold mIds
 rw [List.length_map]
 exact key b a
theorem s_l4Of' {a b : List Feat} (wa : wL wFeat a ≤ 1000000) (wb : wL wFeat b ≤ 1000000) (la : a.length ≤ 400) (lb : b.length ≤ 400) : gf_eo9 a b = some (mDf a b) := by
 have hl := mIds_len (a := a) (b := b)
 have h := df_loop (a := a) (b := b) (gl := gl_eo9_1 a b) (fun _ _ => rfl) (fun x l k v => by
  have e1 := side_w (s := a) (id := x)
  have e2 := side_w (s := b) (id := x)
  simp only [gl_eo9_1, s_l4Side (s := a) (by omega), s_l4Side (s := b) (by omega), Option.bind_some, s_FeatSame (a := (mSide a x).1) (b := (mSide b x).1) (by omega)]
  unfold mCh
  by_cases h1 : (mSide a x).2 = (mSide b x).2
  ·by_cases h2 : (mSide a x).1 = (mSide b x).1
   ·rw [if_pos (side_ne.2 ⟨h1, h2⟩)]
    simp [h1, h2]
   ·rw [if_neg (fun e => h2 (side_ne.1 e).2)]
    simp [h1, h2]
  ·rw [if_neg (fun e => h1 (side_ne.1 e).1)]
   simp [h1]) (mIds a b) 0 [] (by simp; omega)
 unfold gf_eo9 mDf
 rw [s_l4Ids' (by omega), Option.bind_some, if_pos (fits_small (by omega)), h]
 rfl
theorem i_DiffOf {a b : List Feat} (ha : mSheet a = true) (hb : mSheet b = true) (wa : wL wFeat a ≤ 400000) (wb : wL wFeat b ≤ 400000) : gf_ab9 a b = some (mDf a b) := by
 have la : a.length ≤ 8 := by unfold mSheet at ha; rw [Bool.and_eq_true, decide_eq_true_eq] at ha; exact ha.2
 have lb : b.length ≤ 8 := by unfold mSheet at hb; rw [Bool.and_eq_true, decide_eq_true_eq] at hb; exact hb.2
 have hl := mIds_len (a := a) (b := b)
 have hsz : ∀ i ∈ mIds a b, i.size ≤ 1000 := fun i hi => by
  unfold mIds at hi
  rcases fold_mem.1 hi with h | h
  ·obtain ⟨y, hy, e⟩ := List.mem_map.1 h
   have := sum_mem (w := wFeat) hy
   have h2 := mSheet_w ha
   unfold wL at h2
   have e0 : wFeat y = y.id.size + (wShape y.shape + (wL wTag y.tags + 0)) := rfl
   rw [← e]
   omega
  ·obtain ⟨y, hy, e⟩ := List.mem_map.1 h
   have := sum_mem (w := wFeat) hy
   have h2 := mSheet_w hb
   unfold wL at h2
   have e0 : wFeat y = y.id.size + (wShape y.shape + (wL wTag y.tags + 0)) := rfl
   rw [← e]
   omega
 have key : ∀ (l : List Str) (k : Nat) (v : List Change), (∀ i ∈ l, i.size ≤ 1000) → v.length + l.length ≤ 1000 → gl_ab9_1 a b l k v = some (v ++ l.filterMap fun i => if mSide a i = mSide b i then none else some (mCh a b i)) := by
  intro l
  induction l with
  | nil => intro k v _ _; simp [gl_ab9_1]
  | cons x l ih =>
   intro k v hi h
   simp only [List.length_cons] at h
   have e1 := side_w (s := a) (id := x)
   have e2 := side_w (s := b) (id := x)
   have hx := hi x (by simp)
   have hcs : gf_aa9 (⟨x, (mSide a x).2, ⟨(mSide a x).1.id, ⟨(mSide a x).1.shape.kind, (mSide a x).1.shape.pts⟩, (mSide a x).1.tags⟩, (mSide b x).2, (mSide b x).1⟩ : Change) = some (((mSide a x).2 == (mSide b x).2) && decide ((mSide a x).1 = (mSide b x).1)) := i_Change_same (show x.size + (wFeat (mSide a x).1 + (wFeat (mSide b x).1 + 0)) ≤ 1048576 by omega)
   have ih1 := ih (k + 1) v (fun i h => hi i (by simp [h])) (by omega)
   have ih2 := ih (k + 1) (v ++ [mCh a b x]) (fun i h => hi i (by simp [h])) (by simp; omega)
   simp only [gl_ab9_1, i_side (s := a) (by omega), i_side (s := b) (by omega), Option.bind_some, hcs, List.filterMap_cons]
   by_cases h1 : (mSide a x).2 = (mSide b x).2
   ·by_cases h2 : (mSide a x).1 = (mSide b x).1
    ·rw [if_pos (side_ne.2 ⟨h1, h2⟩), if_neg (by simp [h1, h2]), ih1]
    ·rw [if_neg (fun e => h2 (side_ne.1 e).2), if_pos (by simp [h1, h2]), if_pos (fits_small (by simp; omega))]
     refine Eq.trans ih2 ?_
     simp
   ·rw [if_neg (fun e => h1 (side_ne.1 e).1), if_pos (by simp [h1]), if_pos (fits_small (by simp; omega))]
    refine Eq.trans ih2 ?_
    simp
 unfold gf_ab9 mDf
 simp only [i_SheetOk (fs := a) (by omega), i_SheetOk (fs := b) (by omega), ha, hb, Option.bind_some, Bool.not_true, Bool.false_eq_true, if_false, i_names (a := a) (b := b) (mSheet_pw ha) (by omega), fits_small (n := (mIds a b).length) (by omega), if_true, key (mIds a b) 0 [] hsz (by simp; omega), List.nil_append]
def mPack (r : Repo) : List Entry := if mRepo r = true then r.commits.map fun c => ⟨c.up, c.note, mDf (pWas r.commits c.up) c.sheet⟩ else []
theorem repo_sheet {r : Repo} (h : mRepo r = true) : ∀ c ∈ r.commits, mSheet c.sheet = true := by
 intro c hc
 unfold mRepo mCommits at h
 simp only [Bool.and_eq_true] at h
 obtain ⟨j, hj⟩ := allF h.2.2.2.2.1 hc
 simp only [Bool.and_eq_true] at hj
 exact hj.2.1
theorem was_sheet {r : Repo} (h : mRepo r = true) (up : List Int) : mSheet (pWas r.commits up) = true := by
 unfold pWas
 split
 ·decide
 ·split
  ·rename_i c hc
   exact repo_sheet h c (List.mem_of_getElem? hc)
  ·decide
theorem sheet_len {s : List Feat} (h : mSheet s = true) : s.length ≤ 8 := by
 unfold mSheet at h
 rw [Bool.and_eq_true, decide_eq_true_eq] at h
 exact h.2
theorem mDf_b {a b : List Feat} (ha : mSheet a = true) (hb : mSheet b = true) : (mDf a b).length ≤ 16 ∧ wL wChange (mDf a b) ≤ 40000 := by
 have hl := mIds_len (a := a) (b := b)
 have la := sheet_len ha
 have lb := sheet_len hb
 have h1 : (mDf a b).length ≤ (mIds a b).length := List.length_filterMap_le _ _
 have wa := mSheet_w ha
 have wb := mSheet_w hb
 have h2 : sumW wChange (mDf a b) ≤ 2100 * (mDf a b).length := sum_le2 fun c hc => by
  unfold mDf at hc
  obtain ⟨i, hi, e⟩ := List.mem_filterMap.1 hc
  split at e
  ·cases e
  ·cases e
   have e1 := side_w (s := a) (id := i)
   have e2 := side_w (s := b) (id := i)
   have e3 : i.size ≤ 100 := by
    unfold mIds at hi
    have key : ∀ {s : List Feat}, mSheet s = true → i ∈ s.map (·.id) → i.size ≤ 100 := fun hs h => by
     obtain ⟨y, hy, e⟩ := List.mem_map.1 h
     unfold mSheet at hs
     rw [Bool.and_eq_true] at hs
     obtain ⟨j, hj⟩ := allF hs.1 hy
     rw [Bool.and_eq_true] at hj
     have := mFeat_w hj.1
     have e0 : wFeat y = y.id.size + (wShape y.shape + (wL wTag y.tags + 0)) := rfl
     rw [← e]
     omega
    rcases fold_mem.1 hi with h | h
    ·exact key ha h
    ·exact key hb h
   show i.size + (wFeat (mSide a i).1 + (wFeat (mSide b i).1 + 0)) ≤ 2100
   omega
 refine ⟨by omega, ?_⟩
 unfold wL
 omega
theorem s_l9Was' {r : Repo} {k : Nat} {c : Commit} (hr : mRepo r = true) (hk : r.commits[k]? = some c) : gf_ew9 r (k : Int) = some (pWas r.commits c.up) := by
 have hu := mRepo_up (cs := r.commits) (hs := r.heads) hr k c hk
 unfold gf_ew9 pWas
 rw [idx_nat, hk, Option.bind_some]
 match h : c.up with
 | [] => rfl
 | x :: xs =>
  rw [h] at hu
  have h2 := mUp_p hu
  unfold pUp at h2
  simp only [allFrom, Bool.and_eq_true, decide_eq_true_eq] at h2
  have hkl := get_lt hk
  obtain ⟨y, hy⟩ := getI (xs := r.commits) (i := x.toNat) (by omega)
  rw [if_neg (by simp; omega), show idx (x :: xs) 0 = some x from rfl, Option.bind_some, idx_int h2.1.1, hy]
  simp [hy]
theorem commit_up {r : Repo} (hw : wRepo r ≤ 1048576) {c : Commit} (hc : c ∈ r.commits) : c.up.length ≤ 1048576 := by
 have h1 := sum_mem (w := wCommit) hc
 have e0 : wCommit c = wL w0 c.up + (wL wFeat c.sheet + (c.note.size + 0)) := rfl
 have e1 : wL w0 c.up = c.up.length + sumW w0 c.up := rfl
 unfold wRepo at hw
 have e2 : wL wCommit r.commits = r.commits.length + sumW wCommit r.commits := rfl
 omega
theorem s_PackOf' {r : Repo} (hw : wRepo r ≤ 1048576) : gf_dw9 r = some (mPack r) := by
 have hcl : r.commits.length ≤ 1048576 := by unfold wRepo wL at hw; omega
 unfold gf_dw9 mPack
 rw [if_pos (fits_small hcl)]
 by_cases hr : mRepo r = true
 ·have key : ∀ (l : List Commit) (k : Nat) (v : List Entry), r.commits.drop k = l → v.length + l.length ≤ 1048576 → gl_dw9_1 r l k v = some (v ++ l.map fun c => ⟨c.up, c.note, mDf (pWas r.commits c.up) c.sheet⟩) := by
   intro l
   induction l with
   | nil => intro k v _ h; simp [gl_dw9_1]
   | cons x l ih =>
    intro k v hd h
    simp only [List.length_cons] at h
    have hx := drop_get hd
    have hxm := List.mem_of_getElem? hx
    have s1 := was_sheet hr x.up
    have s2 := repo_sheet hr x hxm
    have w1 := mSheet_w s1
    have w2 := mSheet_w s2
    have hb := mDf_b s1 s2
    have hup := commit_up hw hxm
    simp only [gl_dw9_1, s_RepoOk hw, hr, if_true, Option.bind_some, s_l9Was' hr hx]
    rw [if_pos (fits_small (by simpa using hup)), s_l4Of' (by omega) (by omega) (by have := sheet_len s1; omega) (by have := sheet_len s2; omega), Option.bind_some, s_l9Diff (by omega), Option.bind_some, if_pos (fits_small (by simp; omega)), ih (k + 1) _ (drop_next hd) (by simp; omega)]
    simp
  rw [key r.commits 0 [] rfl (by simpa using hcl), if_pos hr]
  rfl
 ·rw [if_neg hr]
  cases hc : r.commits with
  | nil => rfl
  | cons x l =>
   simp only [gl_dw9_1, s_RepoOk hw, Option.bind_some]
   rw [if_neg hr]
   rfl
theorem i_PackOf {r : Repo} (hw : wRepo r ≤ 1048576) : gf_ae9 r = some (mPack r) := by
 have hcl : r.commits.length ≤ 1048576 := by unfold wRepo wL at hw; omega
 unfold gf_ae9 mPack
 rw [i_RepoOk hw, Option.bind_some]
 by_cases hr : mRepo r = true
 ·have key : ∀ (l : List Commit) (k : Nat) (v : List Entry), r.commits.drop k = l → v.length + l.length ≤ 1048576 → gl_ae9_1 r l k v = some (v ++ l.map fun c => ⟨c.up, c.note, mDf (pWas r.commits c.up) c.sheet⟩) := by
   intro l
   induction l with
   | nil => intro k v _ h; simp [gl_ae9_1]
   | cons x l ih =>
    intro k v hd h
    simp only [List.length_cons] at h
    have hx := drop_get hd
    have hxm := List.mem_of_getElem? hx
    have s1 := was_sheet hr x.up
    have s2 := repo_sheet hr x hxm
    have w1 := mSheet_w s1
    have w2 := mSheet_w s2
    have hup := commit_up hw hxm
    have hq : (if (decide ((x.up.length : Int) > 0)) = true then ((idx x.up 0).bind fun x108 => (idx r.commits x108).bind fun x110 => some x110.sheet) else (some []) : Option (List Feat)) = some (pWas r.commits x.up) := by
     have hu := mRepo_up (cs := r.commits) (hs := r.heads) hr k x hx
     unfold pWas
     match h : x.up with
     | [] => rfl
     | u :: us =>
      rw [h] at hu
      have h2 := mUp_p hu
      unfold pUp at h2
      simp only [allFrom, Bool.and_eq_true, decide_eq_true_eq] at h2
      have hkl := get_lt hx
      obtain ⟨y, hy⟩ := getI (xs := r.commits) (i := u.toNat) (by omega)
      rw [if_pos (by simp), show idx (u :: us) 0 = some u from rfl, Option.bind_some, idx_int h2.1.1, hy]
      simp [hy]
    simp only [gl_ae9_1, hq, Option.bind_some]
    rw [if_pos (fits_small (by simpa using hup)), i_DiffOf s1 s2 (by omega) (by omega), Option.bind_some, if_pos (fits_small (by simp; omega)), ih (k + 1) _ (drop_next hd) (by simp; omega)]
    simp
  rw [if_neg (by simp [hr]), if_pos (fits_small hcl), key r.commits 0 [] rfl (by simpa using hcl), if_pos hr]
  rfl
 ·rw [if_neg hr, if_pos (by simp [hr])]
def cChange (c : Change) : Nat := 4 + (sumW c2 c.was.shape.pts + (sumW c2 c.was.tags + (3 + (sumW c2 c.now.shape.pts + sumW c2 c.now.tags))))
def cEntry (e : Entry) : Nat := sumW c1 e.up + (1 + sumW cChange e.diff)
theorem mkh_ChangeS {x : List Change} {k : Int} (hw : wL wChange x ≤ 3145728) (hk : 0 < k) (hb : k + sumW cChange x ≤ kM) : ∃ y, gf_bw9 x k = some (k + sumW cChange x, y) ∧ gf_br9 y k = some (k + sumW cChange x) := by
 obtain ⟨y, h, h2, h3⟩ := mk_list (gf := gf_bw9) (hl := fun l j k K => gl_br9_1 l j k = some (.inr K)) (c := cChange) (w := wChange) (fun _ _ => rfl) (fun n k xs => by simp only [gl_bw9_1, ge_dec]; rfl) (fun x k hwx hk hb => by
  unfold cChange at hb ⊢
  unfold wChange wFeat wShape at hwx
  obtain ⟨t1, h1⟩ := markText_ok (k := k) (by omega)
  obtain ⟨t2, h2⟩ := markText_ok (k := k + 1 + 1) (by omega)
  obtain ⟨p, h3, h3'⟩ := mkh_PtS (x := x.was.shape.pts) (k := k + 1 + 1 + 1 + 1) (by omega) (by omega) (by omega)
  obtain ⟨q, h4, h4'⟩ := mkh_TagS (x := x.was.tags) (k := k + 1 + 1 + 1 + 1 + sumW c2 x.was.shape.pts) (by omega) (by omega) (by omega)
  have e : k + (((4 + (sumW c2 x.was.shape.pts + (sumW c2 x.was.tags + (3 + (sumW c2 x.now.shape.pts + sumW c2 x.now.tags)))) : Nat)) : Int) = k + 1 + 1 + 1 + 1 + sumW c2 x.was.shape.pts + sumW c2 x.was.tags + 1 + 1 + 1 + sumW c2 x.now.shape.pts + sumW c2 x.now.tags := by omega
  have hb1 : k + 1 + 1 + 1 + 1 + sumW c2 x.was.shape.pts + sumW c2 x.was.tags + 1 + 1 + 1 + sumW c2 x.now.shape.pts + sumW c2 x.now.tags ≤ kM := by omega
  have hp0 : 0 < k + 1 + 1 + 1 + 1 + (sumW c2 x.was.shape.pts : Int) := by omega
  have hK0 : 0 < k + 1 + 1 + 1 + 1 + (sumW c2 x.was.shape.pts : Int) + sumW c2 x.was.tags := by omega
  have hk4 : k + 1 + 1 + 1 + 1 ≤ kM := by omega
  rw [e]
  generalize k + 1 + 1 + 1 + 1 + (sumW c2 x.was.shape.pts : Int) + sumW c2 x.was.tags = K at *
  obtain ⟨t3, h5⟩ := markText_ok (k := K + 1) (by omega)
  obtain ⟨p2, h6, h6'⟩ := mkh_PtS (x := x.now.shape.pts) (k := K + 1 + 1 + 1) (by omega) (by omega) (by omega)
  obtain ⟨q2, h7, h7'⟩ := mkh_TagS (x := x.now.tags) (k := K + 1 + 1 + 1 + sumW c2 x.now.shape.pts) (by omega) (by omega) (by omega)
  have m1 := mw hk (by omega)
  have m2 := mw (show 0 < k + 1 by omega) (by omega)
  have m3 := mw (show 0 < k + 1 + 1 by omega) (by omega)
  have m4 := mw (show 0 < k + 1 + 1 + 1 by omega) (by omega)
  have m5 := mw hK0 (by omega)
  have m6 := mw (show 0 < K + 1 by omega) (by omega)
  have m7 := mw (show 0 < K + 1 + 1 by omega) (by omega)
  refine ⟨⟨t1, Int.tmod (k + 1) 3 == 0, ⟨t2, ⟨k + 1 + 1 + 1, p⟩, q⟩, Int.tmod K 3 == 0, ⟨t3, ⟨K + 1 + 1, p2⟩, q2⟩⟩, fun n i xs hx hi => ?_, fun l j K' hl => ?_⟩
  ·simp only [gl_bw9_1, lt_dec hx, if_true, idx_nat, hx, h1, h2, h3, h4, h5, h6, h7, Option.bind_some, m1, m2, m3, m4, m5, m6, m7, miw hi, Int.toNat_natCast, set_get hx, List.set_set]
  ·simp only [gl_br9_1, seq_self, bne_self_eq_false, Bool.not_true, Bool.not_false, BEq.rfl, h1, h2, h3', h4', h5, h6', h7', Option.bind_some, m1, m2, m3, m4, m5, m6, m7, ne_dec hp0, ne_dec hK0, ne_dec (show 0 < K + 1 + 1 + 1 + (sumW c2 x.now.shape.pts : Int) by omega), ne_dec (show 0 < K + 1 + 1 + 1 + (sumW c2 x.now.shape.pts : Int) + sumW c2 x.now.tags by omega)]
   exact hl) (fun _ _ => rfl) x k hw hk hb
 refine ⟨y, h, ?_⟩
 unfold gf_br9
 rw [if_pos (fits_mid (by unfold wL at hw; omega)), h3]
 rfl
theorem mkh_EntryS {x : List Entry} {k : Int} (hw : wL wEntry x ≤ 3145728) (hk : 0 < k) (hb : k + sumW cEntry x ≤ kM) : ∃ y, gf_by9 x k = some (k + sumW cEntry x, y) ∧ gf_bs9 y k = some (k + sumW cEntry x) := by
 obtain ⟨y, h, h2, h3⟩ := mk_list (gf := gf_by9) (hl := fun l j k K => gl_bs9_1 l j k = some (.inr K)) (c := cEntry) (w := wEntry) (fun _ _ => rfl) (fun n k xs => by simp only [gl_by9_1, ge_dec]; rfl) (fun x k hwx hk hb => by
  unfold cEntry at hb ⊢
  unfold wEntry at hwx
  obtain ⟨p, h2, h2'⟩ := mkh_IntS (x := x.up) (k := k) (by omega) (by omega) (by omega)
  obtain ⟨t1, h1⟩ := markText_ok (k := k + sumW c1 x.up) (by omega)
  obtain ⟨q, h3, h3'⟩ := mkh_ChangeS (x := x.diff) (k := k + sumW c1 x.up + 1) (by omega) (by omega) (by omega)
  have e : k + (((sumW c1 x.up + (1 + sumW cChange x.diff) : Nat)) : Int) = k + sumW c1 x.up + 1 + sumW cChange x.diff := by omega
  have m1 := mw (show 0 < k + (sumW c1 x.up : Int) by omega) (by omega)
  rw [e]
  refine ⟨⟨p, t1, q⟩, fun n i xs hx hi => ?_, fun l j K hl => ?_⟩
  ·simp only [gl_by9_1, lt_dec hx, if_true, idx_nat, hx, h1, h2, h3, Option.bind_some, m1, miw hi, Int.toNat_natCast, set_get hx, List.set_set]
  ·simp only [gl_bs9_1, seq_self, Bool.not_true, h1, h2', h3', Option.bind_some, m1, ne_dec (show 0 < k + (sumW c1 x.up : Int) by omega), ne_dec (show 0 < k + (sumW c1 x.up : Int) + 1 + sumW cChange x.diff by omega)]
   exact hl) (fun _ _ => rfl) x k hw hk hb
 refine ⟨y, h, ?_⟩
 unfold gf_bs9
 rw [if_pos (fits_mid (by unfold wL at hw; omega)), h3]
 rfl
theorem cChange_le (c : Change) : cChange c ≤ 7 + 7 * wChange c := by
 have h1 : sumW c2 c.was.shape.pts ≤ 2 * wL w0 c.was.shape.pts := sum_le (a := 2) (fun _ => by unfold c2; omega) _
 have h2 : sumW c2 c.was.tags ≤ 2 * wL wTag c.was.tags := sum_le (a := 2) (fun _ => by unfold c2; omega) _
 have h3 : sumW c2 c.now.shape.pts ≤ 2 * wL w0 c.now.shape.pts := sum_le (a := 2) (fun _ => by unfold c2; omega) _
 have h4 : sumW c2 c.now.tags ≤ 2 * wL wTag c.now.tags := sum_le (a := 2) (fun _ => by unfold c2; omega) _
 unfold cChange wChange wFeat wShape
 omega
theorem cEntry_le (e : Entry) : cEntry e ≤ 7 + 7 * wEntry e := by
 have h1 : sumW c1 e.up ≤ 7 * wL w0 e.up := sum_le (a := 7) (fun _ => by unfold c1; omega) _
 have h2 : sumW cChange e.diff ≤ 7 * wL wChange e.diff := sum_le (a := 7) cChange_le _
 unfold cEntry wEntry
 omega
theorem left2 {n : Int} {w : Nat} (h : ¬ (w : Int) ≤ n) : decide (left n w < 0) = true := by rw [left_neg h]; rfl
theorem left3 {n : Int} {w : Nat} (h : (w : Int) ≤ n) : left n w = n - w ∧ decide (left n w < 0) = false := by rw [left_pos h]; exact ⟨rfl, by simp; omega⟩
theorem mPack_w {r : Repo} (hw : wRepo r ≤ 1048576) : wL wEntry (mPack r) ≤ 1700000 := by
 unfold mPack
 split
 ·rename_i hr
  have hl : r.commits.length ≤ 14 := by
   unfold mRepo at hr
   simp only [Bool.and_eq_true, decide_eq_true_eq] at hr
   exact hr.2.1
  have key : ∀ (l : List Commit), (∀ c ∈ l, c ∈ r.commits) → wL wEntry (l.map fun c => (⟨c.up, c.note, mDf (pWas r.commits c.up) c.sheet⟩ : Entry)) ≤ wL wCommit l + 40000 * l.length := by
   intro l
   induction l with
   | nil => intro _; exact Nat.zero_le _
   | cons x l ih =>
    intro h
    have ih := ih fun c hc => h c (by simp [hc])
    have hb := (mDf_b (was_sheet hr x.up) (repo_sheet hr x (h x (by simp)))).2
    rw [List.map_cons, wL_cons, wL_cons, List.length_cons]
    have e0 : wEntry ⟨x.up, x.note, mDf (pWas r.commits x.up) x.sheet⟩ = wL w0 x.up + (x.note.size + (wL wChange (mDf (pWas r.commits x.up) x.sheet) + 0)) := rfl
    have e1 : wCommit x = wL w0 x.up + (wL wFeat x.sheet + (x.note.size + 0)) := rfl
    omega
  have := key r.commits (fun c h => h)
  unfold wRepo at hw
  omega
 ·exact Nat.zero_le _
theorem law_FnExactPackOf (a : Repo) (ha : okRepo a) : gf_az9 a = some true := by
 unfold gf_az9
 rw [p_szRepo a 1048576 ha (by decide) (by decide)]
 simp only [Option.bind_some]
 by_cases hw : (wRepo a : Int) ≤ 1048576
 ·obtain ⟨e3, e4⟩ := left3 hw
  rw [e4]
  have h1 : wRepo a ≤ 1048576 := by omega
  have hca := cRepo_le a
  obtain ⟨x, hx⟩ := mkn_Repo (x := a) (k := 1) (by omega) (by decide) (by unfold kM; omega)
  have hs := s_PackOf' h1
  have hi := i_PackOf h1
  have hb2 := mPack_w h1
  generalize mPack a = r at hs hi hb2
  have hcr : sumW cEntry r ≤ 7 * wL wEntry r := sum_le (a := 7) cEntry_le r
  obtain ⟨y, hy1, hy2⟩ := mkh_EntryS (x := r) (k := 1) (by omega) (by decide) (by unfold kM; omega)
  have e1 : ¬ ((1 : Int) + cRepo a < 0) := by omega
  have e2 : ¬ ((1 : Int) + sumW cEntry r < 0) := by omega
  simp [p_toRepo a (by omega), hs, hi, p_eqRepo a (by omega), p_eqEntryS r (by omega), hx, hy1, hy2, e1, e2]
 ·rw [left2 hw]
  rfl
end Go.Proofs.AM
