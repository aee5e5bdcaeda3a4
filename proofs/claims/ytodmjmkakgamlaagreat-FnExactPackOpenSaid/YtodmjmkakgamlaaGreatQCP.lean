/- Lemmas of the proof (QCP), on an abstract machine. Conditions: none. -/
import Derived.Test.YtodmjmkakgamlaaGreatQCD
import Derived.Test.YtodmjmkakgamlaaGreatM2
import Derived.Test.YtodmjmkakgamlaaGreatHT
set_option linter.unusedVariables false
set_option linter.unusedSimpArgs false
set_option maxRecDepth 10000
namespace Go.Proofs.AM
theorem p_szPtS : Sz gf_cw9 (okL okPt) (wL w0) := sz_flat fun _ _ => rfl
theorem p_szTag : Sz gf_cy9 okTag wTag := by
 intro x n hx h0 hn
 unfold gf_cy9
 refine sz_str hx.1 h0 hn fun m0 e0 a0 b0 => ?_
 rw [e0]
 refine sz_str hx.2 a0 b0 fun m1 e1 a1 b1 => ?_
 rw [e1]
 exact sz_end a1
theorem p_szShape : Sz gf_cx9 okShape wShape := by
 intro x n hx h0 hn
 unfold gf_cx9
 refine sz_sub p_szPtS hx.2 h0 hn fun m0 a0 b0 => ?_
 exact sz_end a0
theorem p_szTagS : Sz gf_cz9 (okL okTag) (wL wTag) := sz_list p_szTag (gl := gl_cz9_1) (fun _ _ => rfl) (fun _ _ _ _ => rfl) (fun _ _ => rfl)
theorem p_szFeat : Sz gf_cs9 okFeat wFeat := by
 intro x n hx h0 hn
 unfold gf_cs9
 refine sz_str hx.1 h0 hn fun m0 e0 a0 b0 => ?_
 rw [e0]
 refine sz_sub p_szShape hx.2.1 a0 b0 fun m1 a1 b1 => ?_
 refine sz_sub p_szTagS hx.2.2 a1 b1 fun m2 a2 b2 => ?_
 exact sz_end a2
theorem p_szIntS : Sz gf_cv9 (okL rI) (wL w0) := sz_flat fun _ _ => rfl
theorem p_szHead : Sz gf_ct9 okHead wHead := by
 intro x n hx h0 hn
 unfold gf_ct9
 refine sz_str hx.1 h0 hn fun m0 e0 a0 b0 => ?_
 rw [e0]
 exact sz_end a0
theorem p_szHeadS : Sz gf_cu9 (okL okHead) (wL wHead) := sz_list p_szHead (gl := gl_cu9_1) (fun _ _ => rfl) (fun _ _ _ _ => rfl) (fun _ _ => rfl)
theorem p_toPt : Cp gf_di9 w0 := fun _ _ => rfl
theorem p_toPtS : Cp gf_dj9 (wL w0) := cp_list p_toPt (gl := gl_dj9_1) (fun _ _ => rfl) (fun _ _ _ _ => rfl) (fun _ => rfl)
theorem p_toTag : Cp gf_dl9 wTag := fun _ _ => rfl
theorem p_toShape : Cp gf_dk9 wShape := by
 intro x h
 unfold wShape at h
 have h0 := p_toPtS x.pts (by omega)
 simp only [gf_dk9, h0, Option.bind_some]
theorem p_toTagS : Cp gf_dm9 (wL wTag) := cp_list p_toTag (gl := gl_dm9_1) (fun _ _ => rfl) (fun _ _ _ _ => rfl) (fun _ => rfl)
theorem p_toFeat : Cp gf_de9 wFeat := by
 intro x h
 unfold wFeat at h
 have h1 := p_toShape x.shape (by omega)
 have h2 := p_toTagS x.tags (by omega)
 simp only [gf_de9, h1, h2, Option.bind_some]
theorem p_toIntS : Cp gf_dh9 (wL w0) := cp_list (cp_id (w := w0)) (gl := gl_dh9_1) (fun _ _ => rfl) (fun _ _ _ _ => rfl) (fun _ => rfl)
theorem p_toHead : Cp gf_df9 wHead := fun _ _ => rfl
theorem p_toHeadS : Cp gf_dg9 (wL wHead) := cp_list p_toHead (gl := gl_dg9_1) (fun _ _ => rfl) (fun _ _ _ _ => rfl) (fun _ => rfl)
theorem p_eqPt : Eqs gf_br9 w0 := by
 intro x h
 simp [gf_br9]
theorem p_eqPtS : Eqs gf_bs9 (wL w0) := eq_list p_eqPt (gl := gl_bs9_1) (fun _ _ => rfl) (fun _ _ _ _ => rfl) (fun _ _ => rfl)
theorem p_eqTag : Eqs gf_bv9 wTag := by
 intro x h
 simp [gf_bv9, seq_self]
theorem p_eqShape : Eqs gf_bu9 wShape := by
 intro x h
 unfold wShape at h
 have h0 := p_eqPtS x.pts (by omega)
 simp [gf_bu9, h0]
theorem p_eqTagS : Eqs gf_bw9 (wL wTag) := eq_list p_eqTag (gl := gl_bw9_1) (fun _ _ => rfl) (fun _ _ _ _ => rfl) (fun _ _ => rfl)
theorem p_eqFeat : Eqs gf_bm9 wFeat := by
 intro x h
 unfold wFeat at h
 have h1 := p_eqShape x.shape (by omega)
 have h2 := p_eqTagS x.tags (by omega)
 simp [gf_bm9, seq_self, h1, h2]
theorem p_eqIntS : Eqs gf_bq9 (wL w0) := eq_list (eq_id (w := w0)) (gl := gl_bq9_1) (fun _ _ => rfl) (fun _ _ _ _ => rfl) (fun _ _ => rfl)
theorem p_eqFeatS : Eqs gf_bn9 (wL wFeat) := eq_list p_eqFeat (gl := gl_bn9_1) (fun _ _ => rfl) (fun _ _ _ _ => rfl) (fun _ _ => rfl)
theorem p_eqCommit : Eqs gf_bi9 wCommit := by
 intro x h
 unfold wCommit at h
 have h0 := p_eqIntS x.up (by omega)
 have h1 := p_eqFeatS x.sheet (by omega)
 simp [gf_bi9, seq_self, h0, h1]
theorem p_eqHead : Eqs gf_bo9 wHead := by
 intro x h
 simp [gf_bo9, seq_self]
theorem p_eqCommitS : Eqs gf_bj9 (wL wCommit) := eq_list p_eqCommit (gl := gl_bj9_1) (fun _ _ => rfl) (fun _ _ _ _ => rfl) (fun _ _ => rfl)
theorem p_eqHeadS : Eqs gf_bp9 (wL wHead) := eq_list p_eqHead (gl := gl_bp9_1) (fun _ _ => rfl) (fun _ _ _ _ => rfl) (fun _ _ => rfl)
theorem p_eqRepo : Eqs gf_bt9 wRepo := by
 intro x h
 unfold wRepo at h
 have h0 := p_eqCommitS x.commits (by omega)
 have h1 := p_eqHeadS x.heads (by omega)
 simp [gf_bt9, h0, h1]
theorem p_szChange : Sz gf_co9 okChange wChange := by
 intro x n hx h0 hn
 unfold gf_co9
 refine sz_str hx.1 h0 hn fun m0 e0 a0 b0 => ?_
 rw [e0]
 refine sz_sub p_szFeat hx.2.1 a0 b0 fun m1 a1 b1 => ?_
 refine sz_sub p_szFeat hx.2.2 a1 b1 fun m2 a2 b2 => ?_
 exact sz_end a2
theorem p_szChangeS : Sz gf_cp9 (okL okChange) (wL wChange) := sz_list p_szChange (gl := gl_cp9_1) (fun _ _ => rfl) (fun _ _ _ _ => rfl) (fun _ _ => rfl)
theorem p_szEntry : Sz gf_cq9 okEntry wEntry := by
 intro x n hx h0 hn
 unfold gf_cq9
 refine sz_sub p_szIntS hx.1 h0 hn fun m0 a0 b0 => ?_
 refine sz_str hx.2.1 a0 b0 fun m1 e1 a1 b1 => ?_
 rw [e1]
 refine sz_sub p_szChangeS hx.2.2 a1 b1 fun m2 a2 b2 => ?_
 exact sz_end a2
theorem p_szEntryS : Sz gf_cr9 (okL okEntry) (wL wEntry) := sz_list p_szEntry (gl := gl_cr9_1) (fun _ _ => rfl) (fun _ _ _ _ => rfl) (fun _ _ => rfl)
theorem p_toChange : Cp gf_da9 wChange := by
 intro x h
 unfold wChange at h
 have h1 := p_toFeat x.was (by omega)
 have h2 := p_toFeat x.now (by omega)
 simp only [gf_da9, h1, h2, Option.bind_some]
theorem p_toChangeS : Cp gf_db9 (wL wChange) := cp_list p_toChange (gl := gl_db9_1) (fun _ _ => rfl) (fun _ _ _ _ => rfl) (fun _ => rfl)
theorem p_toEntry : Cp gf_dc9 wEntry := by
 intro x h
 unfold wEntry at h
 have h0 := p_toIntS x.up (by omega)
 have h2 := p_toChangeS x.diff (by omega)
 simp only [gf_dc9, h0, h2, Option.bind_some]
theorem p_toEntryS : Cp gf_dd9 (wL wEntry) := cp_list p_toEntry (gl := gl_dd9_1) (fun _ _ => rfl) (fun _ _ _ _ => rfl) (fun _ => rfl)
theorem p_eqChange : Eqs gf_bg9 wChange := by
 intro x h
 unfold wChange at h
 have h1 := p_eqFeat x.was (by omega)
 have h2 := p_eqFeat x.now (by omega)
 simp [gf_bg9, seq_self, h1, h2]
theorem p_eqChangeS : Eqs gf_bh9 (wL wChange) := eq_list p_eqChange (gl := gl_bh9_1) (fun _ _ => rfl) (fun _ _ _ _ => rfl) (fun _ _ => rfl)
theorem p_eqEntry : Eqs gf_bk9 wEntry := by
 intro x h
 unfold wEntry at h
 have h0 := p_eqIntS x.up (by omega)
 have h2 := p_eqChangeS x.diff (by omega)
 simp [gf_bk9, seq_self, h0, h2]
theorem p_eqEntryS : Eqs gf_bl9 (wL wEntry) := eq_list p_eqEntry (gl := gl_bl9_1) (fun _ _ => rfl) (fun _ _ _ _ => rfl) (fun _ _ => rfl)
theorem s_WordOk {s : Str} (h : s.size ≤ 1048576) : gf_en9 s = some (mWord s) := by
 unfold gf_en9 mWord
 rw [if_pos (fits_small h), loopB (gl := gl_en9_1) (p := fun (b : UInt8) _ => decide (97 ≤ b.toNat) && decide (b.toNat ≤ 122)) (xs := s.data.toList) (fun _ => rfl) (fun x l k _ => ?_) s.data.toList 0 rfl]
 ·have e1 : ((s.size : Int) ≥ 1) ↔ 1 ≤ s.size := by omega
  have e2 : ((s.size : Int) ≤ 6) ↔ s.size ≤ 6 := by omega
  cases allFrom (fun (b : UInt8) _ => decide (97 ≤ b.toNat) && decide (b.toNat ≤ 122)) s.data.toList 0
  ·rfl
  ·by_cases h1 : 1 ≤ s.size <;> simp [e1, e2, h1]
 ·have e1 : ((x.toNat : Int) < 97) ↔ ¬ 97 ≤ x.toNat := by omega
  have e2 : ((x.toNat : Int) > 122) ↔ ¬ x.toNat ≤ 122 := by omega
  simp only [gl_en9_1, e1, e2]
  by_cases h1 : 97 ≤ x.toNat <;> by_cases h2 : x.toNat ≤ 122 <;> simp [h1, h2]
theorem i_WordOk {s : Str} (h : s.size ≤ 1048576) : gf_ar9 s = some (mWord s) := by
 unfold gf_ar9 mWord
 rw [if_pos (fits_small h), loopB (gl := gl_ar9_1) (p := fun (b : UInt8) _ => decide (97 ≤ b.toNat) && decide (b.toNat ≤ 122)) (xs := s.data.toList) (fun _ => rfl) (fun x l k _ => ?_) s.data.toList 0 rfl]
 ·have e1 : ((s.size : Int) ≥ 1) ↔ 1 ≤ s.size := by omega
  have e2 : ((s.size : Int) ≤ 6) ↔ s.size ≤ 6 := by omega
  cases allFrom (fun (b : UInt8) _ => decide (97 ≤ b.toNat) && decide (b.toNat ≤ 122)) s.data.toList 0
  ·rfl
  ·by_cases h1 : 1 ≤ s.size <;> simp [gf_be9, e1, e2, h1]
 ·have e1 : ((x.toNat : Int) < 97) ↔ ¬ 97 ≤ x.toNat := by omega
  have e2 : ((x.toNat : Int) > 122) ↔ ¬ x.toNat ≤ 122 := by omega
  simp only [gl_ar9_1, e1, e2]
  by_cases h1 : 97 ≤ x.toNat <;> by_cases h2 : x.toNat ≤ 122 <;> simp [h1, h2]
theorem s_l1Num (n : Int) : gf_ep9 n = some (mNum n) := by
 unfold gf_ep9 mNum
 by_cases h : -1000 ≤ n <;> simp [h]
theorem i_within (n a b : Int) : gf_be9 n a b = some (decide (a ≤ n) && decide (n ≤ b)) := by
 unfold gf_be9
 by_cases h : a ≤ n <;> simp [h]
theorem s_l1Pts {xs : List Pt} (h : xs.length ≤ 1048576) : gf_eq9 xs = some (mPts xs && decide (xs.length ≤ 6)) := by
 unfold gf_eq9 mPts
 rw [if_pos (fits_small h), loopB (gl := gl_eq9_1 xs) (p := fun p k => mNum p.x && (mNum p.y && (decide (k = 0) || decide (xs[k - 1]? ≠ some p)))) (xs := xs) (fun _ => rfl) (fun x l k hd => ?_) xs 0 rfl]
 ·rw [show decide ((xs.length : Int) ≤ 6) = decide (xs.length ≤ 6) from decI]
  exact endB
 ·simp only [gl_eq9_1, s_l1Num, Option.bind_some, ptb, posI]
  rcases Nat.eq_zero_or_pos k with rfl | hk
  ·cases mNum x.x <;> cases mNum x.y <;> simp
  ·obtain ⟨y, hy⟩ := drop_prev hd hk
   have hl := drop_len hd
   have hw := wrap_pred hk (by omega)
   rw [hw, idx_nat, hy]
   have hk' : ¬ k = 0 := by omega
   by_cases e : x = y
   ·subst e
    cases mNum x.x <;> cases mNum x.y <;> simp [hk, hk', hy]
   ·have e' : ¬ y = x := fun h => e h.symm
    cases mNum x.x <;> cases mNum x.y <;> simp [hk, hk', hy, e, e']
theorem s_ShapeOk {x : Shape} (h : x.pts.length ≤ 1048576) : gf_ej9 x = some (mShape x) := by
 unfold gf_ej9 mShape
 rw [s_l1Pts h]
 simp only [Option.bind_some, ptb]
 have c1 : ((x.pts.length : Int) == 1) = decide (x.pts.length = 1) := by
  by_cases e : x.pts.length = 1 <;> simp [e] <;> omega
 have c2 : ((x.pts.length : Int) ≥ 2) ↔ 2 ≤ x.pts.length := by omega
 have c3 : ((x.pts.length : Int) ≥ 3) ↔ 3 ≤ x.pts.length := by omega
 cases mPts x.pts
 ·simp
 ·by_cases hl : x.pts.length ≤ 6
  ·by_cases k1 : x.kind = 1
   ·simp [k1, hl, c1]
   ·by_cases k2 : x.kind = 2
    ·simp [k2, hl, c2]
    ·by_cases k3 : x.kind = 3
     ·by_cases h3 : 3 ≤ x.pts.length
      ·obtain ⟨p, hp⟩ : ∃ p, x.pts[0]? = some p := ⟨x.pts[0], List.getElem?_eq_getElem (by omega)⟩
       obtain ⟨q, hq⟩ : ∃ p, x.pts[x.pts.length - 1]? = some p := ⟨x.pts[x.pts.length - 1], List.getElem?_eq_getElem (by omega)⟩
       have hw := wrap_pred (k := x.pts.length) (by omega) (by omega)
       have e0 : idx x.pts 0 = some p := by rw [← hp]; exact idx_nat (k := 0)
       have e1 : idx x.pts ((x.pts.length - 1 : Nat) : Int) = some q := by rw [← hq]; exact idx_nat
       rw [hw]
       simp [k3, hl, c3, h3, e0, e1, hp, hq]
      ·simp [k3, hl, c3, h3]
     ·simp [k1, k2, k3, hl]
  ·simp [hl]
theorem i_ptOk (p : Pt) : gf_ba9 p = some (mNum p.x && mNum p.y) := by
 unfold gf_ba9 mNum
 rw [i_within, i_within]
 simp only [Option.bind_some]
 cases (decide (-1000 ≤ p.x) && decide (p.x ≤ 1000)) <;> simp
theorem i_ShapeOk {x : Shape} (h : x.pts.length ≤ 1048576) : gf_an9 x = some (mShape x) := by
 unfold gf_an9 mShape
 have c1 : ((x.pts.length : Int) == 1) = decide (x.pts.length = 1) := by
  by_cases e : x.pts.length = 1 <;> simp [e] <;> omega
 have c2 : ((2 : Int) ≤ (x.pts.length : Int)) ↔ 2 ≤ x.pts.length := by omega
 have c3 : ((3 : Int) ≤ (x.pts.length : Int)) ↔ 3 ≤ x.pts.length := by omega
 have c6 : ((x.pts.length : Int) ≤ 6) ↔ x.pts.length ≤ 6 := by omega
 rw [if_pos (fits_small h), loopB (gl := gl_an9_1 x) (p := fun p k => mNum p.x && (mNum p.y && (decide (k = 0) || decide (x.pts[k - 1]? ≠ some p)))) (xs := x.pts) (fun _ => rfl) (fun y l k hd => ?_) x.pts 0 rfl]
 ·show _ = some (mPts x.pts && _)
  have hm : allFrom (fun (p : Pt) k => mNum p.x && (mNum p.y && (decide (k = 0) || decide (x.pts[k - 1]? ≠ some p)))) x.pts 0 = mPts x.pts := rfl
  rw [hm]
  cases mPts x.pts
  ·rfl
  ·simp only [if_true, Option.bind_some, ptb, i_within]
   by_cases k1 : x.kind = 1
   ·by_cases e : x.pts.length = 1 <;> simp [k1, c1, e]
   ·by_cases k2 : x.kind = 2
    ·by_cases e : x.pts.length ≤ 6 <;> simp [k2, c2, c6, e]
    ·by_cases k3 : x.kind = 3
     ·by_cases h3 : 3 ≤ x.pts.length
      ·obtain ⟨p, hp⟩ : ∃ p, x.pts[0]? = some p := ⟨x.pts[0], List.getElem?_eq_getElem (by omega)⟩
       obtain ⟨q, hq⟩ : ∃ p, x.pts[x.pts.length - 1]? = some p := ⟨x.pts[x.pts.length - 1], List.getElem?_eq_getElem (by omega)⟩
       have hw := wrap_pred (k := x.pts.length) (by omega) (by omega)
       have e0 : idx x.pts 0 = some p := by rw [← hp]; exact idx_nat (k := 0)
       have e1 : idx x.pts ((x.pts.length - 1 : Nat) : Int) = some q := by rw [← hq]; exact idx_nat
       rw [hw]
       by_cases e : x.pts.length ≤ 6 <;> simp [k3, c3, c6, h3, e0, e1, hp, hq, e]
      ·simp [k3, c3, c6, h3]
     ·simp [k1, k2, k3]
 ·simp only [gl_an9_1, i_ptOk, Option.bind_some, ptb, posI]
  rcases Nat.eq_zero_or_pos k with rfl | hk
  ·cases mNum y.x <;> cases mNum y.y <;> simp
  ·obtain ⟨z, hz⟩ := drop_prev hd hk
   have hl := drop_len hd
   have hw := wrap_pred hk (by omega)
   rw [hw, idx_nat, hz]
   have hk' : ¬ k = 0 := by omega
   by_cases e : z = y <;> cases mNum y.x <;> cases mNum y.y <;> simp [hk, hk', hz, e]
theorem s_l2Tags {ts : List Tag} (h : wL wTag ts ≤ 1048576) : gf_eu9 ts = some (mTags ts && decide (ts.length ≤ 4)) := by
 have hlen : ts.length ≤ 1048576 := by unfold wL at h; omega
 unfold gf_eu9 mTags
 rw [if_pos (fits_small hlen), loopB (gl := gl_eu9_1 ts) (p := fun t k => mWord t.key && (mWord t.val && (decide (k = 0) || mPrev Tag.key ts t k))) (xs := ts) (fun _ => rfl) (fun x l k hd => ?_) ts 0 rfl]
 ·rw [show decide ((ts.length : Int) ≤ 4) = decide (ts.length ≤ 4) from decI]
  exact endB
 ·have hx : x ∈ ts := List.mem_of_getElem? (drop_get hd)
  have hs := sum_mem (w := wTag) hx
  unfold wL at h
  have hk1 : x.key.size ≤ 1048576 := by have e0 : wTag x = x.key.size + (x.val.size + 0) := rfl; omega
  have hk2 : x.val.size ≤ 1048576 := by have e0 : wTag x = x.key.size + (x.val.size + 0) := rfl; omega
  simp only [gl_eu9_1, s_WordOk hk1, s_WordOk hk2, Option.bind_some, posI, slt_seq]
  rcases Nat.eq_zero_or_pos k with rfl | hk
  ·cases mWord x.key <;> cases mWord x.val <;> simp
  ·obtain ⟨z, hz⟩ := drop_prev hd hk
   have hl := drop_len hd
   have hw := wrap_pred hk (by omega)
   rw [hw, idx_nat, hz]
   have hk' : ¬ k = 0 := by omega
   cases e : slt z.key x.key <;> cases mWord x.key <;> cases mWord x.val <;> simp [hk, hk', hz, e, mPrev]
theorem s_FeatOk {f : Feat} (h : wFeat f ≤ 1048576) : gf_ef9 f = some (mFeat f) := by
 unfold wFeat wShape at h
 have h1 : f.id.size ≤ 1048576 := by omega
 have h2 : f.shape.pts.length ≤ 1048576 := by unfold wL at h; omega
 unfold gf_ef9 mFeat
 rw [s_WordOk h1, s_ShapeOk h2, s_l2Tags (by omega)]
 simp only [Option.bind_some]
 cases mWord f.id <;> cases mShape f.shape <;> simp
theorem i_FeatOk {f : Feat} (h : wFeat f ≤ 1048576) : gf_ae9 f = some (mFeat f) := by
 unfold wFeat wShape at h
 have h1 : f.id.size ≤ 1048576 := by omega
 have h2 : f.shape.pts.length ≤ 1048576 := by unfold wL at h; omega
 have h3 : wL wTag f.tags ≤ 1048576 := by omega
 have hlen : f.tags.length ≤ 1048576 := by unfold wL at h3; omega
 unfold gf_ae9 mFeat
 rw [if_pos (fits_small hlen), loopB (gl := gl_ae9_1 f) (p := fun t k => mWord t.key && (mWord t.val && (decide (k = 0) || mPrev Tag.key f.tags t k))) (xs := f.tags) (fun _ => rfl) (fun x l k hd => ?_) f.tags 0 rfl]
 ·have hm : allFrom (fun (t : Tag) k => mWord t.key && (mWord t.val && (decide (k = 0) || mPrev Tag.key f.tags t k))) f.tags 0 = mTags f.tags := rfl
  rw [hm, i_WordOk h1, i_ShapeOk h2]
  rw [show decide ((f.tags.length : Int) ≤ 4) = decide (f.tags.length ≤ 4) from decI]
  cases mTags f.tags <;> cases mWord f.id <;> cases mShape f.shape <;> simp
 ·have hx : x ∈ f.tags := List.mem_of_getElem? (drop_get hd)
  have hs := sum_mem (w := wTag) hx
  unfold wL at h3
  have hk1 : x.key.size ≤ 1048576 := by have e0 : wTag x = x.key.size + (x.val.size + 0) := rfl; omega
  have hk2 : x.val.size ≤ 1048576 := by have e0 : wTag x = x.key.size + (x.val.size + 0) := rfl; omega
  simp only [gl_ae9_1, i_WordOk hk1, i_WordOk hk2, Option.bind_some, posI]
  rcases Nat.eq_zero_or_pos k with rfl | hk
  ·cases mWord x.key <;> cases mWord x.val <;> simp
  ·obtain ⟨z, hz⟩ := drop_prev hd hk
   have hl := drop_len hd
   have hw := wrap_pred hk (by omega)
   rw [hw, idx_nat, hz]
   have hk' : ¬ k = 0 := by omega
   cases e : slt z.key x.key <;> cases mWord x.key <;> cases mWord x.val <;> simp [hk, hk', hz, e, mPrev]
theorem s_SheetOk {fs : List Feat} (h : wL wFeat fs ≤ 1048576) : gf_el9 fs = some (mSheet fs) := by
 have hlen : fs.length ≤ 1048576 := by unfold wL at h; omega
 unfold gf_el9 mSheet
 rw [if_pos (fits_small hlen), loopB (gl := gl_el9_1 fs) (p := fun f k => mFeat f && (decide (k = 0) || mPrev Feat.id fs f k)) (xs := fs) (fun _ => rfl) (fun x l k hd => ?_) fs 0 rfl]
 ·rw [show decide ((fs.length : Int) ≤ 8) = decide (fs.length ≤ 8) from decI]
  exact endB
 ·have hx : x ∈ fs := List.mem_of_getElem? (drop_get hd)
  have hs := sum_mem (w := wFeat) hx
  unfold wL at h
  simp only [gl_el9_1, s_FeatOk (f := x) (by omega), Option.bind_some, posI, slt_seq]
  rcases Nat.eq_zero_or_pos k with rfl | hk
  ·cases mFeat x <;> simp
  ·obtain ⟨z, hz⟩ := drop_prev hd hk
   have hl := drop_len hd
   have hw := wrap_pred hk (by omega)
   rw [hw, idx_nat, hz]
   have hk' : ¬ k = 0 := by omega
   cases e : slt z.id x.id <;> cases mFeat x <;> simp [hk, hk', hz, e, mPrev]
theorem i_SheetOk {fs : List Feat} (h : wL wFeat fs ≤ 1048576) : gf_ap9 fs = some (mSheet fs) := by
 have hlen : fs.length ≤ 1048576 := by unfold wL at h; omega
 unfold gf_ap9 mSheet
 rw [if_pos (fits_small hlen), loopB (gl := gl_ap9_1 fs) (p := fun f k => mFeat f && (decide (k = 0) || mPrev Feat.id fs f k)) (xs := fs) (fun _ => rfl) (fun x l k hd => ?_) fs 0 rfl]
 ·rw [show decide ((fs.length : Int) ≤ 8) = decide (fs.length ≤ 8) from decI]
  exact endB
 ·have hx : x ∈ fs := List.mem_of_getElem? (drop_get hd)
  have hs := sum_mem (w := wFeat) hx
  unfold wL at h
  simp only [gl_ap9_1, i_FeatOk (f := x) (by omega), Option.bind_some, posI, slt_seq]
  rcases Nat.eq_zero_or_pos k with rfl | hk
  ·cases mFeat x <;> simp
  ·obtain ⟨z, hz⟩ := drop_prev hd hk
   have hl := drop_len hd
   have hw := wrap_pred hk (by omega)
   rw [hw, idx_nat, hz]
   have hk' : ¬ k = 0 := by omega
   cases e : slt z.id x.id <;> cases mFeat x <;> simp [hk, hk', hz, e, mPrev]
theorem s_l1Same {a b : List Pt} (h : a.length ≤ 1048576) : gf_er9 a b = some (decide (a = b)) := eqd_list (gl := gl_er9_1) (ok := fun _ => True) (fun _ _ => rfl) (fun a x l k y _ hy => by
 simp only [gl_er9_1, idx_nat, hy, Option.bind_some, ptb]
 by_cases e : x = y <;> simp [e]) (fun _ _ => rfl) h (fun _ _ => trivial)
theorem i_EqPt {a b : List Pt} (h : a.length ≤ 1048576) : gf_dr9 a b = some (decide (a = b)) := eqd_list (gl := gl_dr9_1) (ok := fun _ => True) (fun _ _ => rfl) (fun a x l k y _ hy => by
 simp only [gl_dr9_1, idx_nat, hy, Option.bind_some, ptb]
 by_cases e : x = y <;> simp [e]) (fun _ _ => rfl) h (fun _ _ => trivial)
theorem s_l2Same {a b : List Tag} (h : a.length ≤ 1048576) : gf_et9 a b = some (decide (a = b)) := eqd_list (gl := gl_et9_1) (ok := fun _ => True) (fun _ _ => rfl) (fun a x l k y _ hy => by
 simp only [gl_et9_1, idx_nat, hy, Option.bind_some, tagb]
 by_cases e : x = y <;> simp [e]) (fun _ _ => rfl) h (fun _ _ => trivial)
theorem i_EqTag {a b : List Tag} (h : a.length ≤ 1048576) : gf_ds9 a b = some (decide (a = b)) := eqd_list (gl := gl_ds9_1) (ok := fun _ => True) (fun _ _ => rfl) (fun a x l k y _ hy => by
 simp only [gl_ds9_1, idx_nat, hy, Option.bind_some, tagb]
 by_cases e : x = y <;> simp [e]) (fun _ _ => rfl) h (fun _ _ => trivial)
theorem s_ShapeSame {a b : Shape} (h : a.pts.length ≤ 1048576) : gf_ek9 a b = some (decide (a = b)) := by
 unfold gf_ek9
 rw [s_l1Same h]
 obtain ⟨k, p⟩ := a; obtain ⟨k2, p2⟩ := b
 by_cases h1 : k = k2 <;> by_cases h2 : p = p2 <;> simp [h1, h2]
theorem s_FeatSame {a b : Feat} (h : wFeat a ≤ 1048576) : gf_eg9 a b = some (decide (a = b)) := by
 unfold wFeat wShape wL at h
 unfold gf_eg9
 rw [s_ShapeSame (by omega), s_l2Same (by omega), seq_dec]
 obtain ⟨i, s, t⟩ := a; obtain ⟨i2, s2, t2⟩ := b
 by_cases h1 : i = i2 <;> by_cases h2 : s = s2 <;> by_cases h3 : t = t2 <;> simp [h1, h2, h3]
theorem i_ShapeSame {a b : Shape} (h : a.pts.length ≤ 1048576) : gf_ao9 a b = some (decide (a = b)) := by
 unfold gf_ao9
 rw [i_EqPt h]
 obtain ⟨k, p⟩ := a; obtain ⟨k2, p2⟩ := b
 by_cases h1 : k = k2 <;> by_cases h2 : p = p2 <;> simp [h1, h2]
theorem i_FeatSame {a b : Feat} (h : wFeat a ≤ 1048576) : gf_af9 a b = some (decide (a = b)) := by
 unfold wFeat wShape wL at h
 unfold gf_af9
 rw [i_ShapeSame (by omega), i_EqTag (by omega), seq_dec]
 obtain ⟨i, s, t⟩ := a; obtain ⟨i2, s2, t2⟩ := b
 by_cases h1 : i = i2 <;> by_cases h2 : s = s2 <;> by_cases h3 : t = t2 <;> simp [h1, h2, h3]
theorem s_l7Up {up : List Int} {k : Nat} (h : up.length ≤ 1048576) : gf_fg9 up (k : Int) = some (mUp up k) := by
 unfold gf_fg9 mUp
 rw [if_pos (fits_small h), loopB (gl := gl_fg9_1 (k : Int)) (p := fun (x : Int) _ => decide (0 ≤ x) && decide (x < (k : Int))) (xs := up) (fun _ => rfl) (fun x l j _ => ?_) up 0 rfl]
 ·generalize allFrom (fun (x : Int) _ => decide (0 ≤ x) && decide (x < (k : Int))) up 0 = A
  cases A
  ·rfl
  ·have e1 : decide ((k : Int) > 0) = decide (0 < k) := posI
   match up with
   | [] => cases e : decide (0 < k) <;> simp [e1, e]
   | [a] => cases e : decide (0 < k) <;> simp [e1, e]
   | [a, b] =>
    have i0 : idx [a, b] 0 = some a := rfl
    have i1 : idx [a, b] 1 = some b := rfl
    by_cases e2 : a = b
    ·subst e2
     cases e : decide (0 < k) <;> simp [e1, e, i0, i1]
    ·cases e : decide (0 < k) <;> simp [e1, e, i0, i1, e2]
   | a :: b :: c :: l =>
    have e2 : ¬ ((l.length : Int) + 1 + 1 + 1 ≤ 2) := by omega
    simp [e2]
 ·have e1 : (x ≥ (k : Int)) ↔ ¬ x < (k : Int) := by omega
  have e2 : (x < 0) ↔ ¬ 0 ≤ x := by omega
  simp only [gl_fg9_1, e1, e2]
  by_cases h1 : 0 ≤ x <;> by_cases h2 : x < (k : Int) <;> simp [h1, h2]
theorem i_Contains0 (x : Int) : gf_dn9 [] x = some false := rfl
theorem i_Contains1 (a x : Int) : gf_dn9 [a] x = some (decide (x = a)) := by
 have hf : fits 1 = true := fits_small (by omega)
 by_cases e : x = a
 ·subst e
  simp [gf_dn9, gf_ea9, hf, gl_ea9_1]
 ·simp [gf_dn9, gf_ea9, hf, gl_ea9_1, e]
def kM : Int := 4398046511104
theorem bstr1 (n : Int) : (bstr [n]).size = 1 := rfl
theorem cat_some {a b : Str} (h : a.size + b.size ≤ 1000) : ∃ t, cat a b = some t ∧ t.size = a.size + b.size := ⟨a ++ b, by unfold cat; rw [if_pos (by omega)], by simp⟩
theorem markText_loop : ∀ (m n w : Nat) (s : Str), w < 10 ^ m → m ≤ 18 → m < n → s.size + m ≤ 100 → ∃ t, gl_cn9_1 n (w : Int) s = some t ∧ t.size ≤ s.size + m
 | m, 0, w, s, _, _, h, _ => by omega
 | 0, n + 1, w, s, h1, _, _, _ => by
  have : w = 0 := by simpa using h1
  subst this
  exact ⟨s, rfl, by omega⟩
 | m + 1, n + 1, w, s, h1, h2, h3, h4 => by
  simp only [gl_cn9_1]
  by_cases hv : 0 < w
  ·rw [if_pos (by simpa using hv)]
   have hd : Int.tdiv (w : Int) 10 = ((w / 10 : Nat) : Int) := by
    rw [Int.tdiv_eq_ediv_of_nonneg (by omega)]
    rfl
   have hlt : w / 10 < 10 ^ m := by
    rw [Nat.pow_succ] at h1
    exact Nat.div_lt_of_lt_mul (by rw [Nat.mul_comm]; exact h1)
   have h5 : (10 : Nat) ^ m ≤ 10 ^ 18 := Nat.pow_le_pow_right (by decide) (by omega)
   have h6 : (10 : Nat) ^ 18 = 1000000000000000000 := by decide
   obtain ⟨t, ht, hs⟩ := cat_some (a := bstr [(IntKind.u8.wrap (IntKind.i64.wrap (48 + (Int.tmod (w : Int) 10))))]) (b := s) (by rw [bstr1]; omega)
   rw [bstr1] at hs
   rw [ht, hd, wrap_id (by omega) (by omega)]
   simp only [Option.bind_some]
   obtain ⟨t2, h7, h8⟩ := markText_loop m n (w / 10) t hlt (by omega) (by omega) (by omega)
   exact ⟨t2, h7, by omega⟩
  ·rw [if_neg (by simpa using hv)]
   exact ⟨s, rfl, by omega⟩
theorem markText_ok {k : Int} (h : k ≤ kM) : ∃ t, gf_cn9 k = some t := by
 unfold gf_cn9
 by_cases h0 : k ≤ 0
 ·exact ⟨_, by rw [if_pos (by simpa using h0)]⟩
 ·rw [if_neg (by simpa using h0)]
  have e : k = ((k.toNat : Nat) : Int) := by omega
  have hz : (⟨#[]⟩ : Str).size = 0 := rfl
  have hm : (⟨#[109]⟩ : Str).size = 1 := rfl
  have hr : rounds = 4194303 + 1 := rfl
  obtain ⟨t, h1, h2⟩ := markText_loop 18 rounds k.toNat (⟨#[]⟩ : Str) (by
   have : (10 : Nat) ^ 18 = 1000000000000000000 := by decide
   unfold kM at h
   omega) (by omega) (by rw [hr]; omega) (by rw [hz]; omega)
  rw [← e] at h1
  obtain ⟨t2, h3, _⟩ := cat_some (a := (⟨#[109]⟩ : Str)) (b := t) (by rw [hm]; omega)
  exact ⟨t2, by rw [h1]; simp only [Option.bind_some, h3]⟩
theorem mk_loop {α : Type} {gl : Nat → Int → Int → List α → Option (Int × List α)} {hl : List α → Nat → Int → Int → Prop} {c w : α → Nat} (h0 : ∀ n k xs, gl (n + 1) k (xs.length : Int) xs = some (k, xs)) (hE : ∀ x k, w x ≤ 3145728 → 0 < k → k + c x ≤ kM → ∃ y, (∀ n (i : Nat) xs, xs[i]? = some x → i < 3145728 → gl (n + 1) k (i : Int) xs = gl n (k + c x) ((i + 1 : Nat) : Int) (xs.set i y)) ∧ ∀ l j K, hl l (j + 1) (k + c x) K → hl (y :: l) j k K) (hn : ∀ j k, hl [] j k k) :
  ∀ (rest pre : List α) (n : Nat) (k : Int), (∀ x ∈ rest, w x ≤ 3145728) → rest.length < n → pre.length + rest.length ≤ 3145728 → 0 < k → k + sumW c rest ≤ kM → ∃ rest', rest'.length = rest.length ∧ gl n k (pre.length : Int) (pre ++ rest) = some (k + sumW c rest, pre ++ rest') ∧ ∀ j, hl rest' j k (k + sumW c rest)
 | _, _, 0, _, _, h, _, _, _ => by omega
 | [], pre, n + 1, k, _, _, _, _, _ => ⟨[], rfl, by simpa [sumW] using h0 n k pre, fun j => by simpa [sumW] using hn j k⟩
 | x :: rest, pre, n + 1, k, hw, hl1, hlen, hk, hb => by
  have hs : sumW c (x :: rest) = c x + sumW c rest := rfl
  rw [hs] at hb ⊢
  obtain ⟨y, h1, h2⟩ := hE x k (hw x (by simp)) hk (by omega)
  simp only [List.length_cons] at hl1 hlen
  obtain ⟨r, h3, h4, h5⟩ := mk_loop h0 hE hn rest (pre ++ [y]) n (k + c x) (fun z hz => hw z (by simp [hz])) (by omega) (by simp; omega) (by omega) (by omega)
  have e0 : k + (((c x + sumW c rest : Nat)) : Int) = k + c x + sumW c rest := by omega
  refine ⟨y :: r, by simp [h3], ?_, fun j => by rw [e0]; exact h2 r j _ (h5 (j + 1))⟩
  rw [h1 n pre.length (pre ++ x :: rest) (by simp) (by omega)]
  have e1 : (pre ++ x :: rest).set pre.length y = pre ++ [y] ++ rest := by simp
  have e2 : ((pre.length + 1 : Nat) : Int) = ((pre ++ [y]).length : Int) := by simp
  rw [e1, e2, h4]
  simp only [List.append_assoc, List.singleton_append, Option.some.injEq, Prod.mk.injEq, and_true]
  omega
def c1 {α : Type} (_ : α) : Nat := 1
def c2 {α : Type} (_ : α) : Nat := 2
def noh {α : Type} (_ : List α) (_ : Nat) (_ _ : Int) : Prop := True
theorem mk_list {α : Type} {gf : List α → Int → Option (Int × List α)} {gl : Nat → Int → Int → List α → Option (Int × List α)} {hl : List α → Nat → Int → Int → Prop} {c w : α → Nat} (hg : ∀ a k, gf a k = (gl rounds k 0 a).bind fun q => some (q.1, q.2)) (h0 : ∀ n k xs, gl (n + 1) k (xs.length : Int) xs = some (k, xs)) (hE : ∀ x k, w x ≤ 3145728 → 0 < k → k + c x ≤ kM → ∃ y, (∀ n (i : Nat) xs, xs[i]? = some x → i < 3145728 → gl (n + 1) k (i : Int) xs = gl n (k + c x) ((i + 1 : Nat) : Int) (xs.set i y)) ∧ ∀ l j K, hl l (j + 1) (k + c x) K → hl (y :: l) j k K) (hn : ∀ j k, hl [] j k k) : ∀ x k, wL w x ≤ 3145728 → 0 < k → k + sumW c x ≤ kM → ∃ y, gf x k = some (k + sumW c x, y) ∧ y.length = x.length ∧ hl y 0 k (k + sumW c x) := fun x k hw hk hb => by
 have hr : rounds = 4194303 + 1 := rfl
 have hlen : x.length ≤ 3145728 := by unfold wL at hw; omega
 obtain ⟨r, h1, h2, h3⟩ := mk_loop h0 hE hn x [] rounds k (fun y hy => by have := sum_mem (w := w) hy; unfold wL at hw; omega) (by rw [hr]; omega) (by simpa using hlen) hk hb
 refine ⟨r, ?_, h1, h3 0⟩
 rw [hg]
 simp only [List.nil_append, List.length_nil] at h2
 have h2' : gl rounds k 0 x = some (k + sumW c x, r) := h2
 rw [h2']
 rfl
theorem mw {k : Int} (h : 0 < k) (h2 : k ≤ kM) : IntKind.i64.wrap (k + 1) = k + 1 := by unfold kM at h2; exact wrap_id (by omega) (by omega)
theorem miw {i : Nat} (h : i < 3145728) : IntKind.i64.wrap ((i : Int) + 1) = ((i + 1 : Nat) : Int) := by rw [wrap_id (by omega) (by omega)]; omega
theorem lt_dec {α : Type} {xs : List α} {i : Nat} {x : α} (h : xs[i]? = some x) : decide ((i : Int) < (xs.length : Int)) = true := decide_eq_true (by have := get_lt h; omega)
theorem set_get {α : Type} {xs : List α} {i : Nat} {x y : α} (h : xs[i]? = some x) : (xs.set i y)[i]? = some y := List.getElem?_set_self (get_lt h)
theorem ge_dec {n : Nat} : decide ((n : Int) < (n : Int)) = false := decide_eq_false (by omega)
def hlInt (l : List Int) (j : Nat) (k K : Int) : Prop := gl_ca9_1 l j k = some (.inr K)
theorem sum_c1 {α : Type} : ∀ l : List α, sumW (c1 (α := α)) l = l.length := fun l => by
 induction l with
 | nil => rfl
 | cons x l ih => simp only [sumW, ih, c1, List.length_cons]; omega
theorem mk_IntS {x : List Int} {k : Int} (hw : x.length ≤ 3145728) (hk : 0 < k) (hb : k + x.length ≤ kM) : ∃ y, gf_cj9 x k = some (k + x.length, y) ∧ y.length = x.length ∧ gf_ca9 y k = some (k + x.length) := by
 obtain ⟨y, h1, h2, h3⟩ := mk_list (gf := gf_cj9) (hl := hlInt) (c := c1) (w := w0) (fun _ _ => rfl) (fun n k xs => by simp only [gl_cj9_1, ge_dec]; rfl) (fun x k _ hk hb => ⟨k, fun n i xs hx hi => by
  unfold c1 at hb ⊢
  simp only [gl_cj9_1, lt_dec hx, if_true, idx_nat, hx, Option.bind_some, mw hk (by omega), miw hi, Int.toNat_natCast, Int.natCast_one], fun l j K h => by
  unfold c1 at h hb
  unfold hlInt at h ⊢
  simp only [gl_ca9_1, bne_self_eq_false, mw hk (by omega)]
  rw [if_neg (by decide)]
  simpa only [Int.natCast_one] using h⟩) (fun j k => rfl) x k (by unfold wL; rw [sum_w0]; exact hw) hk (by rw [sum_c1]; exact hb)
 rw [sum_c1] at h1 h3
 refine ⟨y, h1, h2, ?_⟩
 unfold hlInt at h3
 unfold gf_ca9
 rw [if_pos (fits_mid (by omega)), h3]
 rfl
def cFeat (f : Feat) : Nat := 2 + (sumW c2 f.shape.pts + sumW c2 f.tags)
def cCommit (c : Commit) : Nat := sumW c1 c.up + (sumW cFeat c.sheet + 1)
def cRepo (r : Repo) : Nat := sumW cCommit r.commits + sumW c2 r.heads
theorem mkn_IntS {x : List Int} {k : Int} (hw : wL w0 x ≤ 3145728) (hk : 0 < k) (hb : k + sumW c1 x ≤ kM) : ∃ y, gf_cj9 x k = some (k + sumW c1 x, y) := by
 obtain ⟨y, h, _⟩ := mk_list (gf := gf_cj9) (hl := noh) (c := c1) (w := w0) (fun _ _ => rfl) (fun n k xs => by simp only [gl_cj9_1, ge_dec]; rfl) (fun x k _ hk hb => ⟨k, fun n i xs hx hi => by
  unfold c1 at hb ⊢
  simp only [gl_cj9_1, lt_dec hx, if_true, idx_nat, hx, Option.bind_some, mw hk (by omega), miw hi, Int.toNat_natCast, Int.natCast_one], fun _ _ _ _ => trivial⟩) (fun _ _ => trivial) x k hw hk hb
 exact ⟨y, h⟩
theorem two_k {k : Int} : k + ((2 : Nat) : Int) = k + 1 + 1 := by omega
theorem mkn_PtS {x : List Pt} {k : Int} (hw : wL w0 x ≤ 3145728) (hk : 0 < k) (hb : k + sumW c2 x ≤ kM) : ∃ y, gf_ck9 x k = some (k + sumW c2 x, y) := by
 obtain ⟨y, h, _⟩ := mk_list (gf := gf_ck9) (hl := noh) (c := c2) (w := w0) (fun _ _ => rfl) (fun n k xs => by simp only [gl_ck9_1, ge_dec]; rfl) (fun x k _ hk hb => by
  unfold c2 at hb ⊢
  refine ⟨⟨k, k + 1⟩, fun n i xs hx hi => ?_, fun _ _ _ _ => trivial⟩
  simp only [gl_ck9_1, lt_dec hx, if_true, idx_nat, hx, Option.bind_some, mw hk (by omega), mw (show 0 < k + 1 by omega) (by omega), miw hi, Int.toNat_natCast, set_get hx, List.set_set, two_k]) (fun _ _ => trivial) x k hw hk hb
 exact ⟨y, h⟩
theorem mkn_TagS {x : List Tag} {k : Int} (hw : wL wTag x ≤ 3145728) (hk : 0 < k) (hb : k + sumW c2 x ≤ kM) : ∃ y, gf_cm9 x k = some (k + sumW c2 x, y) := by
 obtain ⟨y, h, _⟩ := mk_list (gf := gf_cm9) (hl := noh) (c := c2) (w := wTag) (fun _ _ => rfl) (fun n k xs => by simp only [gl_cm9_1, ge_dec]; rfl) (fun x k _ hk hb => by
  unfold c2 at hb ⊢
  obtain ⟨t1, h1⟩ := markText_ok (k := k) (by omega)
  obtain ⟨t2, h2⟩ := markText_ok (k := k + 1) (by omega)
  refine ⟨⟨t1, t2⟩, fun n i xs hx hi => ?_, fun _ _ _ _ => trivial⟩
  simp only [gl_cm9_1, lt_dec hx, if_true, idx_nat, hx, h1, h2, Option.bind_some, mw hk (by omega), mw (show 0 < k + 1 by omega) (by omega), miw hi, Int.toNat_natCast, set_get hx, List.set_set, two_k]) (fun _ _ => trivial) x k hw hk hb
 exact ⟨y, h⟩
theorem mkn_HeadS {x : List Head} {k : Int} (hw : wL wHead x ≤ 3145728) (hk : 0 < k) (hb : k + sumW c2 x ≤ kM) : ∃ y, gf_ci9 x k = some (k + sumW c2 x, y) := by
 obtain ⟨y, h, _⟩ := mk_list (gf := gf_ci9) (hl := noh) (c := c2) (w := wHead) (fun _ _ => rfl) (fun n k xs => by simp only [gl_ci9_1, ge_dec]; rfl) (fun x k _ hk hb => by
  unfold c2 at hb ⊢
  obtain ⟨t1, h1⟩ := markText_ok (k := k) (by omega)
  refine ⟨⟨t1, k + 1⟩, fun n i xs hx hi => ?_, fun _ _ _ _ => trivial⟩
  simp only [gl_ci9_1, lt_dec hx, if_true, idx_nat, hx, h1, Option.bind_some, mw hk (by omega), mw (show 0 < k + 1 by omega) (by omega), miw hi, Int.toNat_natCast, set_get hx, List.set_set, two_k]) (fun _ _ => trivial) x k hw hk hb
 exact ⟨y, h⟩
theorem sum_le {α : Type} {c w : α → Nat} {a : Nat} (h : ∀ x, c x ≤ a + a * w x) : ∀ xs : List α, sumW c xs ≤ a * wL w xs
 | [] => by simp [sumW]
 | x :: xs => by
  have ih := sum_le h xs
  have := h x
  unfold wL at ih ⊢
  simp only [sumW, List.length_cons]
  have e : a * (xs.length + 1 + (w x + sumW w xs)) = a + a * w x + a * (xs.length + sumW w xs) := by
   rw [show xs.length + 1 + (w x + sumW w xs) = 1 + w x + (xs.length + sumW w xs) by omega, Nat.mul_add, Nat.mul_add, Nat.mul_one]
  omega
theorem cFeat_le (f : Feat) : cFeat f ≤ 2 + 2 * wFeat f := by
 have h1 := sum_le (c := c2) (w := w0) (a := 2) (fun x => by unfold c2; omega) f.shape.pts
 have h2 := sum_le (c := c2) (w := wTag) (a := 2) (fun x => by unfold c2; omega) f.tags
 unfold cFeat wFeat wShape
 omega
theorem cCommit_le (c : Commit) : cCommit c ≤ 2 + 2 * wCommit c := by
 have h1 := sum_le (c := c1) (w := w0) (a := 2) (fun x => by unfold c1; omega) c.up
 have h2 := sum_le (c := cFeat) (w := wFeat) (a := 2) (fun x => by have := cFeat_le x; omega) c.sheet
 unfold cCommit wCommit
 omega
theorem cRepo_le (r : Repo) : cRepo r ≤ 2 * wRepo r := by
 have h1 := sum_le (c := cCommit) (w := wCommit) (a := 2) (fun x => by have := cCommit_le x; omega) r.commits
 have h2 := sum_le (c := c2) (w := wHead) (a := 2) (fun x => by unfold c2; omega) r.heads
 unfold cRepo wRepo
 omega
theorem ne_dec {n : Int} (h : 0 < n) : decide (n < 0) = false := decide_eq_false (by omega)
theorem mkh_IntS {x : List Int} {k : Int} (hw : wL w0 x ≤ 3145728) (hk : 0 < k) (hb : k + sumW c1 x ≤ kM) : ∃ y, gf_cj9 x k = some (k + sumW c1 x, y) ∧ gf_ca9 y k = some (k + sumW c1 x) := by
 rw [sum_c1] at hb ⊢
 obtain ⟨y, h1, h2, h3⟩ := mk_IntS (x := x) (k := k) (by unfold wL at hw; omega) hk hb
 exact ⟨y, h1, h3⟩
theorem mkh_PtS {x : List Pt} {k : Int} (hw : wL w0 x ≤ 3145728) (hk : 0 < k) (hb : k + sumW c2 x ≤ kM) : ∃ y, gf_ck9 x k = some (k + sumW c2 x, y) ∧ gf_cb9 y k = some (k + sumW c2 x) := by
 obtain ⟨y, h, h2, h3⟩ := mk_list (gf := gf_ck9) (hl := fun l j k K => gl_cb9_1 l j k = some (.inr K)) (c := c2) (w := w0) (fun _ _ => rfl) (fun n k xs => by simp only [gl_ck9_1, ge_dec]; rfl) (fun x k _ hk hb => by
  unfold c2 at hb ⊢
  refine ⟨⟨k, k + 1⟩, fun n i xs hx hi => ?_, fun l j K hl => ?_⟩
  ·simp only [gl_ck9_1, lt_dec hx, if_true, idx_nat, hx, Option.bind_some, mw hk (by omega), mw (show 0 < k + 1 by omega) (by omega), miw hi, Int.toNat_natCast, set_get hx, List.set_set, two_k]
  ·rw [two_k] at hl
   simp only [gl_cb9_1, bne_self_eq_false, mw hk (by omega), mw (show 0 < k + 1 by omega) (by omega)]
   exact hl) (fun _ _ => rfl) x k hw hk hb
 refine ⟨y, h, ?_⟩
 unfold gf_cb9
 rw [if_pos (fits_mid (by unfold wL at hw; omega)), h3]
 rfl
theorem mkh_TagS {x : List Tag} {k : Int} (hw : wL wTag x ≤ 3145728) (hk : 0 < k) (hb : k + sumW c2 x ≤ kM) : ∃ y, gf_cm9 x k = some (k + sumW c2 x, y) ∧ gf_cd9 y k = some (k + sumW c2 x) := by
 obtain ⟨y, h, h2, h3⟩ := mk_list (gf := gf_cm9) (hl := fun l j k K => gl_cd9_1 l j k = some (.inr K)) (c := c2) (w := wTag) (fun _ _ => rfl) (fun n k xs => by simp only [gl_cm9_1, ge_dec]; rfl) (fun x k _ hk hb => by
  unfold c2 at hb ⊢
  obtain ⟨t1, h1⟩ := markText_ok (k := k) (by omega)
  obtain ⟨t2, h2⟩ := markText_ok (k := k + 1) (by omega)
  refine ⟨⟨t1, t2⟩, fun n i xs hx hi => ?_, fun l j K hl => ?_⟩
  ·simp only [gl_cm9_1, lt_dec hx, if_true, idx_nat, hx, h1, h2, Option.bind_some, mw hk (by omega), mw (show 0 < k + 1 by omega) (by omega), miw hi, Int.toNat_natCast, set_get hx, List.set_set, two_k]
  ·rw [two_k] at hl
   simp only [gl_cd9_1, seq_self, Bool.not_true, h1, h2, Option.bind_some, mw hk (by omega), mw (show 0 < k + 1 by omega) (by omega)]
   exact hl) (fun _ _ => rfl) x k hw hk hb
 refine ⟨y, h, ?_⟩
 unfold gf_cd9
 rw [if_pos (fits_mid (by unfold wL at hw; omega)), h3]
 rfl
theorem mkh_HeadS {x : List Head} {k : Int} (hw : wL wHead x ≤ 3145728) (hk : 0 < k) (hb : k + sumW c2 x ≤ kM) : ∃ y, gf_ci9 x k = some (k + sumW c2 x, y) ∧ gf_bz9 y k = some (k + sumW c2 x) := by
 obtain ⟨y, h, h2, h3⟩ := mk_list (gf := gf_ci9) (hl := fun l j k K => gl_bz9_1 l j k = some (.inr K)) (c := c2) (w := wHead) (fun _ _ => rfl) (fun n k xs => by simp only [gl_ci9_1, ge_dec]; rfl) (fun x k _ hk hb => by
  unfold c2 at hb ⊢
  obtain ⟨t1, h1⟩ := markText_ok (k := k) (by omega)
  refine ⟨⟨t1, k + 1⟩, fun n i xs hx hi => ?_, fun l j K hl => ?_⟩
  ·simp only [gl_ci9_1, lt_dec hx, if_true, idx_nat, hx, h1, Option.bind_some, mw hk (by omega), mw (show 0 < k + 1 by omega) (by omega), miw hi, Int.toNat_natCast, set_get hx, List.set_set, two_k]
  ·rw [two_k] at hl
   simp only [gl_bz9_1, seq_self, bne_self_eq_false, Bool.not_true, h1, Option.bind_some, mw hk (by omega), mw (show 0 < k + 1 by omega) (by omega)]
   exact hl) (fun _ _ => rfl) x k hw hk hb
 refine ⟨y, h, ?_⟩
 unfold gf_bz9
 rw [if_pos (fits_mid (by unfold wL at hw; omega)), h3]
 rfl
theorem mkh_FeatS {x : List Feat} {k : Int} (hw : wL wFeat x ≤ 3145728) (hk : 0 < k) (hb : k + sumW cFeat x ≤ kM) : ∃ y, gf_ch9 x k = some (k + sumW cFeat x, y) ∧ gf_by9 y k = some (k + sumW cFeat x) := by
 obtain ⟨y, h, h2, h3⟩ := mk_list (gf := gf_ch9) (hl := fun l j k K => gl_by9_1 l j k = some (.inr K)) (c := cFeat) (w := wFeat) (fun _ _ => rfl) (fun n k xs => by simp only [gl_ch9_1, ge_dec]; rfl) (fun x k hwx hk hb => by
  unfold cFeat at hb ⊢
  unfold wFeat wShape at hwx
  obtain ⟨t1, h1⟩ := markText_ok (k := k) (by omega)
  obtain ⟨p, h2, h2'⟩ := mkh_PtS (x := x.shape.pts) (k := k + 1 + 1) (by omega) (by omega) (by omega)
  obtain ⟨q, h3, h3'⟩ := mkh_TagS (x := x.tags) (k := k + 1 + 1 + sumW c2 x.shape.pts) (by omega) (by omega) (by omega)
  have e : k + (((2 + (sumW c2 x.shape.pts + sumW c2 x.tags) : Nat)) : Int) = k + 1 + 1 + sumW c2 x.shape.pts + sumW c2 x.tags := by omega
  refine ⟨⟨t1, ⟨k + 1, p⟩, q⟩, fun n i xs hx hi => ?_, fun l j K hl => ?_⟩
  ·simp only [gl_ch9_1, lt_dec hx, if_true, idx_nat, hx, h1, h2, h3, Option.bind_some, mw hk (by omega), mw (show 0 < k + 1 by omega) (by omega), miw hi, Int.toNat_natCast, set_get hx, List.set_set]
   rw [e]
  ·rw [e] at hl
   simp only [gl_by9_1, seq_self, bne_self_eq_false, Bool.not_true, h1, h2', h3', Option.bind_some, mw hk (by omega), mw (show 0 < k + 1 by omega) (by omega), ne_dec (show 0 < k + 1 + 1 + (sumW c2 x.shape.pts : Int) by omega), ne_dec (show 0 < k + 1 + 1 + (sumW c2 x.shape.pts : Int) + sumW c2 x.tags by omega)]
   exact hl) (fun _ _ => rfl) x k hw hk hb
 refine ⟨y, h, ?_⟩
 unfold gf_by9
 rw [if_pos (fits_mid (by unfold wL at hw; omega)), h3]
 rfl
theorem mkh_CommitS {x : List Commit} {k : Int} (hw : wL wCommit x ≤ 3145728) (hk : 0 < k) (hb : k + sumW cCommit x ≤ kM) : ∃ y, gf_cf9 x k = some (k + sumW cCommit x, y) ∧ gf_bx9 y k = some (k + sumW cCommit x) := by
 obtain ⟨y, h, h2, h3⟩ := mk_list (gf := gf_cf9) (hl := fun l j k K => gl_bx9_1 l j k = some (.inr K)) (c := cCommit) (w := wCommit) (fun _ _ => rfl) (fun n k xs => by simp only [gl_cf9_1, ge_dec]; rfl) (fun x k hwx hk hb => by
  unfold cCommit at hb ⊢
  unfold wCommit at hwx
  obtain ⟨p, h2, h2'⟩ := mkh_IntS (x := x.up) (k := k) (by omega) (by omega) (by omega)
  obtain ⟨q, h3, h3'⟩ := mkh_FeatS (x := x.sheet) (k := k + sumW c1 x.up) (by omega) (by omega) (by omega)
  obtain ⟨t1, h1⟩ := markText_ok (k := k + sumW c1 x.up + sumW cFeat x.sheet) (by omega)
  have e : k + (((sumW c1 x.up + (sumW cFeat x.sheet + 1) : Nat)) : Int) = k + sumW c1 x.up + sumW cFeat x.sheet + 1 := by omega
  refine ⟨⟨p, q, t1⟩, fun n i xs hx hi => ?_, fun l j K hl => ?_⟩
  ·simp only [gl_cf9_1, lt_dec hx, if_true, idx_nat, hx, h1, h2, h3, Option.bind_some, mw (show 0 < k + sumW c1 x.up + sumW cFeat x.sheet by omega) (by omega), miw hi, Int.toNat_natCast, set_get hx, List.set_set]
   rw [e]
  ·rw [e] at hl
   simp only [gl_bx9_1, seq_self, Bool.not_true, h1, h2', h3', Option.bind_some, mw (show 0 < k + sumW c1 x.up + sumW cFeat x.sheet by omega) (by omega), ne_dec (show 0 < k + (sumW c1 x.up : Int) by omega), ne_dec (show 0 < k + (sumW c1 x.up : Int) + sumW cFeat x.sheet by omega)]
   exact hl) (fun _ _ => rfl) x k hw hk hb
 refine ⟨y, h, ?_⟩
 unfold gf_bx9
 rw [if_pos (fits_mid (by unfold wL at hw; omega)), h3]
 rfl
theorem mkh_Repo {x : Repo} {k : Int} (hw : wRepo x ≤ 3145728) (hk : 0 < k) (hb : k + cRepo x ≤ kM) : ∃ y, gf_cl9 x k = some (k + cRepo x, y) ∧ gf_cc9 y k = some (k + cRepo x) := by
 unfold cRepo at hb ⊢
 unfold wRepo at hw
 obtain ⟨p, h2, h2'⟩ := mkh_CommitS (x := x.commits) (k := k) (by omega) (by omega) (by omega)
 obtain ⟨q, h3, h3'⟩ := mkh_HeadS (x := x.heads) (k := k + sumW cCommit x.commits) (by omega) (by omega) (by omega)
 have e : k + (((sumW cCommit x.commits + sumW c2 x.heads : Nat)) : Int) = k + sumW cCommit x.commits + sumW c2 x.heads := by omega
 rw [e]
 refine ⟨⟨p, q⟩, ?_, ?_⟩
 ·unfold gf_cl9
  simp only [h2, h3, Option.bind_some]
 ·unfold gf_cc9
  simp only [h2', h3', Option.bind_some, ne_dec (show 0 < k + (sumW cCommit x.commits : Int) by omega), ne_dec (show 0 < k + (sumW cCommit x.commits : Int) + sumW c2 x.heads by omega)]
  rfl
theorem cpa_loop {α : Type} {g : α → Option α} {gl : List α → Nat → List α → Option (List α)} (h0 : ∀ k v, gl [] k v = some v) (h1 : ∀ x l k v, gl (x :: l) k v = (g x).bind fun y => if fits (v ++ [y]).length = true then gl l (k + 1) (v ++ [y]) else none) : ∀ (l : List α) (k : Nat) (v : List α), (∀ x ∈ l, g x = some x) → v.length + l.length ≤ 1048576 → gl l k v = some (v ++ l)
 | [], k, v, _, _ => by rw [h0]; simp
 | x :: l, k, v, hx, hl => by
  simp only [List.length_cons] at hl
  rw [h1, hx x (by simp)]
  simp only [Option.bind_some]
  rw [if_pos (fits_small (by simp; omega)), cpa_loop h0 h1 l (k + 1) _ (fun y hy => hx y (by simp [hy])) (by simp; omega)]
  simp
theorem s_l2Copy {f : Feat} (h : wFeat f ≤ 1048576) : gf_es9 f = some f := by
 unfold wFeat wShape wL at h
 unfold gf_es9 gf_eo9
 rw [if_pos (fits_small (by simp; omega))]
 simp only [Option.bind_some]
 rw [if_pos (fits_small (by simp; omega))]
 rfl
theorem s_l3Copy {fs : List Feat} (h : wL wFeat fs ≤ 1048576) : gf_ev9 fs = some fs := by
 have hl : fs.length ≤ 1048576 := by unfold wL at h; omega
 unfold gf_ev9
 rw [if_pos (fits_small hl), cpa_loop (gl := gl_ev9_1) (fun _ _ => rfl) (fun _ _ _ _ => rfl) fs 0 [] (fun x hx => s_l2Copy (by have := sum_mem (w := wFeat) hx; unfold wL at h; omega)) (by simpa using hl)]
 rfl
theorem i_cloneFeat {f : Feat} (h : wFeat f ≤ 1048576) : gf_at9 f = some f := by
 unfold wFeat wShape wL at h
 unfold gf_at9 gf_av9
 rw [if_pos (fits_small (by simp; omega))]
 simp only [Option.bind_some]
 rw [if_pos (fits_small (by simp; omega))]
 rfl
theorem i_cloneSheet {fs : List Feat} (h : wL wFeat fs ≤ 1048576) : gf_aw9 fs = some fs := by
 have hl : fs.length ≤ 1048576 := by unfold wL at h; omega
 unfold gf_aw9
 rw [if_pos (fits_small hl), cpa_loop (gl := gl_aw9_1) (fun _ _ => rfl) (fun _ _ _ _ => rfl) fs 0 [] (fun x hx => i_cloneFeat (by have := sum_mem (w := wFeat) hx; unfold wL at h; omega)) (by simpa using hl)]
 rfl
def rNil : Repo := ⟨[], []⟩
theorem sumW_append {α : Type} {w : α → Nat} : ∀ (a b : List α), sumW w (a ++ b) = sumW w a + sumW w b
 | [], b => by simp [sumW]
 | x :: a, b => by simp only [List.cons_append, sumW, sumW_append a b]; omega
theorem wL_append {α : Type} {w : α → Nat} (a b : List α) : wL w (a ++ b) = wL w a + wL w b := by unfold wL; rw [sumW_append]; simp; omega
def cnt (m : List Bool) : Nat → Nat
 | 0 => 0
 | k + 1 => cnt m k + (if trueAt m k = true then 1 else 0)
def newUp (m : List Bool) (c : Commit) : Commit := ⟨c.up.map fun u => (cnt m u.toNat : Int), c.sheet, c.note⟩
def sweepC (m : List Bool) : List Commit → Nat → List Commit
 | [], _ => []
 | x :: l, k => if trueAt m k = true then newUp m x :: sweepC m l (k + 1) else sweepC m l (k + 1)
def setAtH (hs : List Head) (k : Nat) (h : Head) (v : Int) : List Head := hs.set k ⟨h.name, v⟩
def mAdd (r : Repo) (n : Str) (s : List Feat) (t : Str) : Repo × Int :=
 if (mRepo r && (mSheet s && mWord t)) = true then
  (match idx r.heads (mHead r.heads n) with
  | none => (r, 1)
  | some h => match idx r.commits h.at_ with
   | none => (r, 1)
   | some x => if x.sheet = s then (r, 3) else
    if mFind r.commits ⟨[h.at_], s, t⟩ < 0 then
     (if r.commits.length = 14 then (r, 2) else (⟨r.commits ++ [⟨[h.at_], s, t⟩], setAtH r.heads (mHead r.heads n).toNat h r.commits.length⟩, 0))
    else (⟨r.commits, setAtH r.heads (mHead r.heads n).toNat h (mFind r.commits ⟨[h.at_], s, t⟩)⟩, 0))
 else (⟨[], []⟩, 4)
theorem sumW_set {α : Type} {w : α → Nat} : ∀ (xs : List α) (k : Nat) (x y : α), xs[k]? = some x → w y ≤ w x → sumW w (xs.set k y) ≤ sumW w xs
 | [], k, x, y, h, _ => by simp at h
 | z :: xs, 0, x, y, h, hw => by
  simp only [List.getElem?_cons_zero, Option.some.injEq] at h
  subst h
  simp only [List.set_cons_zero, sumW]
  omega
 | z :: xs, k + 1, x, y, h, hw => by
  have := sumW_set xs k x y (by simpa using h) hw
  simp only [List.set_cons_succ, sumW]
  omega
theorem setAtH_w {hs : List Head} {n : Str} {h : Head} {v : Int} (hh : idx hs (mHead hs n) = some h) : wL wHead (setAtH hs (mHead hs n).toNat h v) ≤ wL wHead hs := by
 have h1 := (idx_get hh).2
 have := sumW_set (w := wHead) hs _ h ⟨h.name, v⟩ h1 (Nat.le_refl _)
 unfold wL setAtH
 simp only [List.length_set]
 omega
theorem sumW_app1 {α : Type} {w : α → Nat} : ∀ (a : List α) (x : α), sumW w (a ++ [x]) = sumW w a + w x
 | [], x => by simp [sumW]
 | y :: a, x => by simp only [List.cons_append, sumW, sumW_app1 a x]; omega
theorem mAdd_w {r : Repo} {n t : Str} {s : List Feat} : wRepo (mAdd r n s t).1 ≤ wRepo r + (2 + (wL wFeat s + t.size)) := by
 unfold mAdd
 split
 ·split
  ·simp only; omega
  ·rename_i h hh
   split
   ·simp only; omega
   ·split
    ·simp only; omega
    ·split
     ·split
      ·simp only; omega
      ·have := setAtH_w (v := (r.commits.length : Int)) hh
       simp only [wRepo]
       have e : wL wCommit (r.commits ++ [⟨[h.at_], s, t⟩]) = wL wCommit r.commits + (1 + wCommit ⟨[h.at_], s, t⟩) := by
        unfold wL
        rw [sumW_app1]
        simp
        omega
       have e2 : wCommit ⟨[h.at_], s, t⟩ = 1 + (wL wFeat s + (t.size + 0)) := by unfold wCommit; simp [wL, sumW, w0]
       omega
     ·have := setAtH_w (v := mFind r.commits ⟨[h.at_], s, t⟩) hh
      simp only [wRepo]
      omega
 ·have : wRepo ⟨[], []⟩ = 0 := rfl
  simp only [this]
  omega
theorem sum_le2 {α : Type} {w : α → Nat} {n : Nat} : ∀ {xs : List α}, (∀ x ∈ xs, w x ≤ n) → sumW w xs ≤ n * xs.length
 | [], h => by simp [sumW]
 | x :: xs, h => by
  have h1 := h x (by simp)
  have h2 := sum_le2 (xs := xs) (n := n) fun y hy => h y (by simp [hy])
  simp only [sumW, List.length_cons, Nat.mul_add, Nat.mul_one]
  omega
abbrev onS : Str := ⟨#[111, 110]⟩
def nt (s : Str) : Prop := s.size ≤ 7 ∧ s ≠ onS
theorem allF {α : Type} {p : α → Nat → Bool} {l : List α} {k : Nat} (h : allFrom p l k = true) {x : α} (hx : x ∈ l) : ∃ j, p x j = true := by
 obtain ⟨j, hj⟩ := List.getElem?_of_mem hx
 exact ⟨_, allFrom_get h j x hj⟩
theorem mWord_size {s : Str} (h : mWord s = true) : s.size ≤ 7 := by
 simp only [mWord, Bool.and_eq_true, decide_eq_true_eq] at h
 omega
theorem trueAt_lt {m : List Bool} {k : Nat} (h : trueAt m k = true) : k < m.length := by
 unfold trueAt at h
 rcases Nat.lt_or_ge k m.length with h1 | h1
 ·exact h1
 ·rw [List.getElem?_eq_none h1] at h
  cases h
theorem cnt_mono {m : List Bool} {a : Nat} : ∀ {b : Nat}, a ≤ b → cnt m a ≤ cnt m b
 | 0, h => by
  have : a = 0 := by omega
  subst this; exact Nat.le_refl _
 | b + 1, h => by
  rcases Nat.eq_or_lt_of_le h with rfl | h
  ·exact Nat.le_refl _
  ·have := cnt_mono (m := m) (a := a) (b := b) (by omega)
   simp only [cnt]
   omega
theorem sweepC_len {m : List Bool} : ∀ {l : List Commit} {k : Nat}, (sweepC m l k).length + cnt m k = cnt m (k + l.length)
 | [], k => by simp [sweepC]
 | x :: l, k => by
  have ih := sweepC_len (m := m) (l := l) (k := k + 1)
  simp only [cnt] at ih
  rw [List.length_cons, show k + (l.length + 1) = k + 1 + l.length by omega]
  simp only [sweepC]
  split
  ·rename_i h
   rw [if_pos h] at ih
   simp only [List.length_cons]
   omega
  ·rename_i h
   rw [if_neg h] at ih
   omega
theorem sweepC_get {m : List Bool} : ∀ {l : List Commit} {k j : Nat} {x : Commit}, l[j]? = some x → trueAt m (k + j) = true → (sweepC m l k)[cnt m (k + j) - cnt m k]? = some (newUp m x)
 | [], k, j, x, h, _ => by simp at h
 | y :: l, k, 0, x, h, ht => by
  simp only [List.getElem?_cons_zero, Option.some.injEq] at h
  subst h
  simp only [Nat.add_zero] at ht
  simp [sweepC, ht]
 | y :: l, k, j + 1, x, h, ht => by
  rw [show k + (j + 1) = k + 1 + j by omega] at ht ⊢
  have ih := sweepC_get (m := m) (l := l) (k := k + 1) (j := j) (by simpa using h) ht
  have hm := cnt_mono (m := m) (a := k + 1) (b := k + 1 + j) (by omega)
  simp only [cnt] at ih hm
  simp only [sweepC]
  split
  ·rename_i hk
   rw [if_pos hk] at ih hm
   rw [show cnt m (k + 1 + j) - cnt m k = cnt m (k + 1 + j) - (cnt m k + 1) + 1 by omega, List.getElem?_cons_succ]
   exact ih
  ·rename_i hk
   rw [if_neg hk] at ih
   exact ih
theorem cnt_hit {m : List Bool} : ∀ {n j : Nat}, j < cnt m n → ∃ k, k < n ∧ trueAt m k = true ∧ cnt m k = j
 | 0, j, h => by simp [cnt] at h
 | n + 1, j, h => by
  by_cases hn : j < cnt m n
  ·obtain ⟨k, h1, h2, h3⟩ := cnt_hit hn
   exact ⟨k, by omega, h2, h3⟩
  ·simp only [cnt] at h
   split at h
   ·rename_i ht
    exact ⟨n, by omega, ht, by omega⟩
   ·omega
structure Kept (cs : List Commit) (m : List Bool) : Prop where
 hist : Hist cs
 len : m.length = cs.length
 up : ∀ k x u, cs[k]? = some x → trueAt m k = true → u ∈ x.up → trueAt m u.toNat = true
section
variable {cs : List Commit} {m : List Bool}
theorem Kept.get (h : Kept cs m) {k : Nat} (hk : trueAt m k = true) : ∃ x, cs[k]? = some x ∧ (sweepC m cs 0)[cnt m k]? = some (newUp m x) := by
 obtain ⟨x, hx⟩ := getI (xs := cs) (i := k) (by rw [← h.len]; exact trueAt_lt hk)
 have := sweepC_get (m := m) (l := cs) (k := 0) (j := k) hx (by simpa using hk)
 simp only [Nat.zero_add, cnt, Nat.sub_zero] at this
 exact ⟨x, hx, this⟩
theorem Kept.tot (h : Kept cs m) : (sweepC m cs 0).length = cnt m cs.length := by
 have := sweepC_len (m := m) (l := cs) (k := 0)
 simp only [Nat.zero_add, cnt] at this
 exact this
theorem Kept.from (h : Kept cs m) {j : Nat} {y : Commit} (hy : (sweepC m cs 0)[j]? = some y) : ∃ k x, trueAt m k = true ∧ cnt m k = j ∧ cs[k]? = some x ∧ y = newUp m x := by
 have := get_lt hy
 rw [h.tot] at this
 obtain ⟨k, h1, h2, h3⟩ := cnt_hit this
 obtain ⟨x, h4, h5⟩ := h.get h2
 rw [h3, hy] at h5
 exact ⟨k, x, h2, h3, h4, Option.some.inj h5⟩
end
structure Added (r : Repo) (n t : Str) (s : List Feat) (i : Nat) (z : Head) (x : Commit) (q : Repo) (k : Nat) : Prop where
 repo : mRepo r = true
 sheet : mSheet s = true
 word : mWord t = true
 hd : mHead r.heads n = (i : Int)
 at_ : r.heads[i]? = some z
 name : z.name = n
 was : r.commits[z.at_.toNat]? = some x
 ge : 0 ≤ z.at_
 ne : x.sheet ≠ s
 eq : mAdd r n s t = (q, 0)
 heads : q.heads = r.heads.set i ⟨z.name, (k : Int)⟩
 comm : (q.commits = r.commits ∧ k < r.commits.length) ∨ (q.commits = r.commits ++ [⟨[z.at_], s, t⟩] ∧ k = r.commits.length ∧ r.commits.length < 14)
 get : q.commits[k]? = some ⟨[z.at_], s, t⟩
 repo' : mRepo q = true
section
variable {r q : Repo} {n t : Str} {s : List Feat} {i k : Nat} {z : Head} {x : Commit}
theorem Added.w (h : Added r n t s i z x q k) (hw : wRepo r ≤ 1000000) (hs : wL wFeat s ≤ 20000) (ht : t.size ≤ 7) : wRepo q ≤ wRepo r + 20010 := by
 have h1 := mAdd_w (r := r) (n := n) (t := t) (s := s)
 rw [h.eq] at h1
 simp only at h1
 omega
theorem Added.pre (h : Added r n t s i z x q k) : q.commits.take r.commits.length = r.commits := by
 rcases h.comm with ⟨h1, _⟩ | ⟨h1, _⟩ <;> rw [h1] <;> simp
end
section
variable {r q : Repo} {n t : Str} {s : List Feat} {i k : Nat} {z : Head} {x : Commit}
end
theorem sumW_sub {α : Type} {w : α → Nat} {a b : List α} (h : a.Sublist b) : sumW w a ≤ sumW w b := by
 induction h with
 | slnil => exact Nat.le_refl _
 | cons x h ih => simp only [sumW]; omega
 | cons_cons x h ih => simp only [sumW]; omega
theorem wL_sub {α : Type} {w : α → Nat} {a b : List α} (h : a.Sublist b) : wL w a ≤ wL w b := by
 have h1 := sumW_sub (w := w) h
 have h2 := h.length_le
 unfold wL
 omega
theorem fits_two {n : Nat} (h : n ≤ 3145728) : fits n = true := fits_mid (by omega)
theorem eqd_listD {α : Type} [DecidableEq α] {gl : List α → List α → Nat → Option (Bool ⊕ Unit)} {f : List α → List α → Option Bool} {ok : α → Prop} (h0 : ∀ a k, gl a [] k = some (.inr ())) (h1 : ∀ a x l k y, ok x → a[k]? = some y → gl a (x :: l) k = if x = y then gl a l (k + 1) else some (.inl false))
  (hf : ∀ a b, f a b = if ((a.length : Int) != (b.length : Int)) = true then some false else (if fits a.length = true then ((gl b a 0).bind fun q => match q with | .inl r => some r | .inr _ => some true) else none)) {xs ys : List α} (hl : xs.length ≤ 3145728) (hx : ∀ x ∈ xs, ok x) : f xs ys = some (decide (xs = ys)) := by
 rw [hf]
 by_cases e : xs.length = ys.length
 ·rw [if_neg (by simp [e]), if_pos (fits_two hl)]
  have := eqd_loop h0 h1 xs [] ys hx e
  simp only [List.nil_append, List.length_nil] at this
  rw [this]
  by_cases e2 : xs = ys <;> simp [e2]
 ·rw [if_pos (by simp; omega)]
  have : ¬ xs = ys := fun h => e (by rw [h])
  simp [this]
theorem s_WordOkD {s : Str} (h : s.size ≤ 3145728) : gf_en9 s = some (mWord s) := by
 unfold gf_en9 mWord
 rw [if_pos (fits_two h), loopB (gl := gl_en9_1) (p := fun (b : UInt8) _ => decide (97 ≤ b.toNat) && decide (b.toNat ≤ 122)) (xs := s.data.toList) (fun _ => rfl) (fun x l k _ => ?_) s.data.toList 0 rfl]
 ·have e1 : ((s.size : Int) ≥ 1) ↔ 1 ≤ s.size := by omega
  have e2 : ((s.size : Int) ≤ 6) ↔ s.size ≤ 6 := by omega
  cases allFrom (fun (b : UInt8) _ => decide (97 ≤ b.toNat) && decide (b.toNat ≤ 122)) s.data.toList 0
  ·rfl
  ·by_cases h1 : 1 ≤ s.size <;> simp [e1, e2, h1]
 ·have e1 : ((x.toNat : Int) < 97) ↔ ¬ 97 ≤ x.toNat := by omega
  have e2 : ((x.toNat : Int) > 122) ↔ ¬ x.toNat ≤ 122 := by omega
  simp only [gl_en9_1, e1, e2]
  by_cases h1 : 97 ≤ x.toNat <;> by_cases h2 : x.toNat ≤ 122 <;> simp [h1, h2]
theorem i_WordOkD {s : Str} (h : s.size ≤ 3145728) : gf_ar9 s = some (mWord s) := by
 unfold gf_ar9 mWord
 rw [if_pos (fits_two h), loopB (gl := gl_ar9_1) (p := fun (b : UInt8) _ => decide (97 ≤ b.toNat) && decide (b.toNat ≤ 122)) (xs := s.data.toList) (fun _ => rfl) (fun x l k _ => ?_) s.data.toList 0 rfl]
 ·have e1 : ((s.size : Int) ≥ 1) ↔ 1 ≤ s.size := by omega
  have e2 : ((s.size : Int) ≤ 6) ↔ s.size ≤ 6 := by omega
  cases allFrom (fun (b : UInt8) _ => decide (97 ≤ b.toNat) && decide (b.toNat ≤ 122)) s.data.toList 0
  ·rfl
  ·by_cases h1 : 1 ≤ s.size <;> simp [gf_be9, e1, e2, h1]
 ·have e1 : ((x.toNat : Int) < 97) ↔ ¬ 97 ≤ x.toNat := by omega
  have e2 : ((x.toNat : Int) > 122) ↔ ¬ x.toNat ≤ 122 := by omega
  simp only [gl_ar9_1, e1, e2]
  by_cases h1 : 97 ≤ x.toNat <;> by_cases h2 : x.toNat ≤ 122 <;> simp [h1, h2]
theorem s_l1PtsD {xs : List Pt} (h : xs.length ≤ 3145728) : gf_eq9 xs = some (mPts xs && decide (xs.length ≤ 6)) := by
 unfold gf_eq9 mPts
 rw [if_pos (fits_two h), loopB (gl := gl_eq9_1 xs) (p := fun p k => mNum p.x && (mNum p.y && (decide (k = 0) || decide (xs[k - 1]? ≠ some p)))) (xs := xs) (fun _ => rfl) (fun x l k hd => ?_) xs 0 rfl]
 ·rw [show decide ((xs.length : Int) ≤ 6) = decide (xs.length ≤ 6) from decI]
  exact endB
 ·simp only [gl_eq9_1, s_l1Num, Option.bind_some, ptb, posI]
  rcases Nat.eq_zero_or_pos k with rfl | hk
  ·cases mNum x.x <;> cases mNum x.y <;> simp
  ·obtain ⟨y, hy⟩ := drop_prev hd hk
   have hl := drop_len hd
   have hw := wrap_pred hk (by omega)
   rw [hw, idx_nat, hy]
   have hk' : ¬ k = 0 := by omega
   by_cases e : x = y
   ·subst e
    cases mNum x.x <;> cases mNum x.y <;> simp [hk, hk', hy]
   ·have e' : ¬ y = x := fun h => e h.symm
    cases mNum x.x <;> cases mNum x.y <;> simp [hk, hk', hy, e, e']
theorem s_ShapeOkD {x : Shape} (h : x.pts.length ≤ 3145728) : gf_ej9 x = some (mShape x) := by
 unfold gf_ej9 mShape
 rw [s_l1PtsD h]
 simp only [Option.bind_some, ptb]
 have c1 : ((x.pts.length : Int) == 1) = decide (x.pts.length = 1) := by
  by_cases e : x.pts.length = 1 <;> simp [e] <;> omega
 have c2 : ((x.pts.length : Int) ≥ 2) ↔ 2 ≤ x.pts.length := by omega
 have c3 : ((x.pts.length : Int) ≥ 3) ↔ 3 ≤ x.pts.length := by omega
 cases mPts x.pts
 ·simp
 ·by_cases hl : x.pts.length ≤ 6
  ·by_cases k1 : x.kind = 1
   ·simp [k1, hl, c1]
   ·by_cases k2 : x.kind = 2
    ·simp [k2, hl, c2]
    ·by_cases k3 : x.kind = 3
     ·by_cases h3 : 3 ≤ x.pts.length
      ·obtain ⟨p, hp⟩ : ∃ p, x.pts[0]? = some p := ⟨x.pts[0], List.getElem?_eq_getElem (by omega)⟩
       obtain ⟨q, hq⟩ : ∃ p, x.pts[x.pts.length - 1]? = some p := ⟨x.pts[x.pts.length - 1], List.getElem?_eq_getElem (by omega)⟩
       have hw := wrap_pred (k := x.pts.length) (by omega) (by omega)
       have e0 : idx x.pts 0 = some p := by rw [← hp]; exact idx_nat (k := 0)
       have e1 : idx x.pts ((x.pts.length - 1 : Nat) : Int) = some q := by rw [← hq]; exact idx_nat
       rw [hw]
       simp [k3, hl, c3, h3, e0, e1, hp, hq]
      ·simp [k3, hl, c3, h3]
     ·simp [k1, k2, k3, hl]
  ·simp [hl]
theorem i_ShapeOkD {x : Shape} (h : x.pts.length ≤ 3145728) : gf_an9 x = some (mShape x) := by
 unfold gf_an9 mShape
 have c1 : ((x.pts.length : Int) == 1) = decide (x.pts.length = 1) := by
  by_cases e : x.pts.length = 1 <;> simp [e] <;> omega
 have c2 : ((2 : Int) ≤ (x.pts.length : Int)) ↔ 2 ≤ x.pts.length := by omega
 have c3 : ((3 : Int) ≤ (x.pts.length : Int)) ↔ 3 ≤ x.pts.length := by omega
 have c6 : ((x.pts.length : Int) ≤ 6) ↔ x.pts.length ≤ 6 := by omega
 rw [if_pos (fits_two h), loopB (gl := gl_an9_1 x) (p := fun p k => mNum p.x && (mNum p.y && (decide (k = 0) || decide (x.pts[k - 1]? ≠ some p)))) (xs := x.pts) (fun _ => rfl) (fun y l k hd => ?_) x.pts 0 rfl]
 ·show _ = some (mPts x.pts && _)
  have hm : allFrom (fun (p : Pt) k => mNum p.x && (mNum p.y && (decide (k = 0) || decide (x.pts[k - 1]? ≠ some p)))) x.pts 0 = mPts x.pts := rfl
  rw [hm]
  cases mPts x.pts
  ·rfl
  ·simp only [if_true, Option.bind_some, ptb, i_within]
   by_cases k1 : x.kind = 1
   ·by_cases e : x.pts.length = 1 <;> simp [k1, c1, e]
   ·by_cases k2 : x.kind = 2
    ·by_cases e : x.pts.length ≤ 6 <;> simp [k2, c2, c6, e]
    ·by_cases k3 : x.kind = 3
     ·by_cases h3 : 3 ≤ x.pts.length
      ·obtain ⟨p, hp⟩ : ∃ p, x.pts[0]? = some p := ⟨x.pts[0], List.getElem?_eq_getElem (by omega)⟩
       obtain ⟨q, hq⟩ : ∃ p, x.pts[x.pts.length - 1]? = some p := ⟨x.pts[x.pts.length - 1], List.getElem?_eq_getElem (by omega)⟩
       have hw := wrap_pred (k := x.pts.length) (by omega) (by omega)
       have e0 : idx x.pts 0 = some p := by rw [← hp]; exact idx_nat (k := 0)
       have e1 : idx x.pts ((x.pts.length - 1 : Nat) : Int) = some q := by rw [← hq]; exact idx_nat
       rw [hw]
       by_cases e : x.pts.length ≤ 6 <;> simp [k3, c3, c6, h3, e0, e1, hp, hq, e]
      ·simp [k3, c3, c6, h3]
     ·simp [k1, k2, k3]
 ·simp only [gl_an9_1, i_ptOk, Option.bind_some, ptb, posI]
  rcases Nat.eq_zero_or_pos k with rfl | hk
  ·cases mNum y.x <;> cases mNum y.y <;> simp
  ·obtain ⟨z, hz⟩ := drop_prev hd hk
   have hl := drop_len hd
   have hw := wrap_pred hk (by omega)
   rw [hw, idx_nat, hz]
   have hk' : ¬ k = 0 := by omega
   by_cases e : z = y <;> cases mNum y.x <;> cases mNum y.y <;> simp [hk, hk', hz, e]
theorem s_l2TagsD {ts : List Tag} (h : wL wTag ts ≤ 3145728) : gf_eu9 ts = some (mTags ts && decide (ts.length ≤ 4)) := by
 have hlen : ts.length ≤ 3145728 := by unfold wL at h; omega
 unfold gf_eu9 mTags
 rw [if_pos (fits_two hlen), loopB (gl := gl_eu9_1 ts) (p := fun t k => mWord t.key && (mWord t.val && (decide (k = 0) || mPrev Tag.key ts t k))) (xs := ts) (fun _ => rfl) (fun x l k hd => ?_) ts 0 rfl]
 ·rw [show decide ((ts.length : Int) ≤ 4) = decide (ts.length ≤ 4) from decI]
  exact endB
 ·have hx : x ∈ ts := List.mem_of_getElem? (drop_get hd)
  have hs := sum_mem (w := wTag) hx
  unfold wL at h
  have hk1 : x.key.size ≤ 3145728 := by have e0 : wTag x = x.key.size + (x.val.size + 0) := rfl; omega
  have hk2 : x.val.size ≤ 3145728 := by have e0 : wTag x = x.key.size + (x.val.size + 0) := rfl; omega
  simp only [gl_eu9_1, s_WordOkD hk1, s_WordOkD hk2, Option.bind_some, posI, slt_seq]
  rcases Nat.eq_zero_or_pos k with rfl | hk
  ·cases mWord x.key <;> cases mWord x.val <;> simp
  ·obtain ⟨z, hz⟩ := drop_prev hd hk
   have hl := drop_len hd
   have hw := wrap_pred hk (by omega)
   rw [hw, idx_nat, hz]
   have hk' : ¬ k = 0 := by omega
   cases e : slt z.key x.key <;> cases mWord x.key <;> cases mWord x.val <;> simp [hk, hk', hz, e, mPrev]
theorem s_FeatOkD {f : Feat} (h : wFeat f ≤ 3145728) : gf_ef9 f = some (mFeat f) := by
 unfold wFeat wShape at h
 have h1 : f.id.size ≤ 3145728 := by omega
 have h2 : f.shape.pts.length ≤ 3145728 := by unfold wL at h; omega
 unfold gf_ef9 mFeat
 rw [s_WordOkD h1, s_ShapeOkD h2, s_l2TagsD (by omega)]
 simp only [Option.bind_some]
 cases mWord f.id <;> cases mShape f.shape <;> simp
theorem i_FeatOkD {f : Feat} (h : wFeat f ≤ 3145728) : gf_ae9 f = some (mFeat f) := by
 unfold wFeat wShape at h
 have h1 : f.id.size ≤ 3145728 := by omega
 have h2 : f.shape.pts.length ≤ 3145728 := by unfold wL at h; omega
 have h3 : wL wTag f.tags ≤ 3145728 := by omega
 have hlen : f.tags.length ≤ 3145728 := by unfold wL at h3; omega
 unfold gf_ae9 mFeat
 rw [if_pos (fits_two hlen), loopB (gl := gl_ae9_1 f) (p := fun t k => mWord t.key && (mWord t.val && (decide (k = 0) || mPrev Tag.key f.tags t k))) (xs := f.tags) (fun _ => rfl) (fun x l k hd => ?_) f.tags 0 rfl]
 ·have hm : allFrom (fun (t : Tag) k => mWord t.key && (mWord t.val && (decide (k = 0) || mPrev Tag.key f.tags t k))) f.tags 0 = mTags f.tags := rfl
  rw [hm, i_WordOkD h1, i_ShapeOkD h2]
  rw [show decide ((f.tags.length : Int) ≤ 4) = decide (f.tags.length ≤ 4) from decI]
  cases mTags f.tags <;> cases mWord f.id <;> cases mShape f.shape <;> simp
 ·have hx : x ∈ f.tags := List.mem_of_getElem? (drop_get hd)
  have hs := sum_mem (w := wTag) hx
  unfold wL at h3
  have hk1 : x.key.size ≤ 3145728 := by have e0 : wTag x = x.key.size + (x.val.size + 0) := rfl; omega
  have hk2 : x.val.size ≤ 3145728 := by have e0 : wTag x = x.key.size + (x.val.size + 0) := rfl; omega
  simp only [gl_ae9_1, i_WordOkD hk1, i_WordOkD hk2, Option.bind_some, posI]
  rcases Nat.eq_zero_or_pos k with rfl | hk
  ·cases mWord x.key <;> cases mWord x.val <;> simp
  ·obtain ⟨z, hz⟩ := drop_prev hd hk
   have hl := drop_len hd
   have hw := wrap_pred hk (by omega)
   rw [hw, idx_nat, hz]
   have hk' : ¬ k = 0 := by omega
   cases e : slt z.key x.key <;> cases mWord x.key <;> cases mWord x.val <;> simp [hk, hk', hz, e, mPrev]
theorem s_SheetOkD {fs : List Feat} (h : wL wFeat fs ≤ 3145728) : gf_el9 fs = some (mSheet fs) := by
 have hlen : fs.length ≤ 3145728 := by unfold wL at h; omega
 unfold gf_el9 mSheet
 rw [if_pos (fits_two hlen), loopB (gl := gl_el9_1 fs) (p := fun f k => mFeat f && (decide (k = 0) || mPrev Feat.id fs f k)) (xs := fs) (fun _ => rfl) (fun x l k hd => ?_) fs 0 rfl]
 ·rw [show decide ((fs.length : Int) ≤ 8) = decide (fs.length ≤ 8) from decI]
  exact endB
 ·have hx : x ∈ fs := List.mem_of_getElem? (drop_get hd)
  have hs := sum_mem (w := wFeat) hx
  unfold wL at h
  simp only [gl_el9_1, s_FeatOkD (f := x) (by omega), Option.bind_some, posI, slt_seq]
  rcases Nat.eq_zero_or_pos k with rfl | hk
  ·cases mFeat x <;> simp
  ·obtain ⟨z, hz⟩ := drop_prev hd hk
   have hl := drop_len hd
   have hw := wrap_pred hk (by omega)
   rw [hw, idx_nat, hz]
   have hk' : ¬ k = 0 := by omega
   cases e : slt z.id x.id <;> cases mFeat x <;> simp [hk, hk', hz, e, mPrev]
theorem i_SheetOkD {fs : List Feat} (h : wL wFeat fs ≤ 3145728) : gf_ap9 fs = some (mSheet fs) := by
 have hlen : fs.length ≤ 3145728 := by unfold wL at h; omega
 unfold gf_ap9 mSheet
 rw [if_pos (fits_two hlen), loopB (gl := gl_ap9_1 fs) (p := fun f k => mFeat f && (decide (k = 0) || mPrev Feat.id fs f k)) (xs := fs) (fun _ => rfl) (fun x l k hd => ?_) fs 0 rfl]
 ·rw [show decide ((fs.length : Int) ≤ 8) = decide (fs.length ≤ 8) from decI]
  exact endB
 ·have hx : x ∈ fs := List.mem_of_getElem? (drop_get hd)
  have hs := sum_mem (w := wFeat) hx
  unfold wL at h
  simp only [gl_ap9_1, i_FeatOkD (f := x) (by omega), Option.bind_some, posI, slt_seq]
  rcases Nat.eq_zero_or_pos k with rfl | hk
  ·cases mFeat x <;> simp
  ·obtain ⟨z, hz⟩ := drop_prev hd hk
   have hl := drop_len hd
   have hw := wrap_pred hk (by omega)
   rw [hw, idx_nat, hz]
   have hk' : ¬ k = 0 := by omega
   cases e : slt z.id x.id <;> cases mFeat x <;> simp [hk, hk', hz, e, mPrev]
theorem s_l1SameD {a b : List Pt} (h : a.length ≤ 3145728) : gf_er9 a b = some (decide (a = b)) := eqd_listD (gl := gl_er9_1) (ok := fun _ => True) (fun _ _ => rfl) (fun a x l k y _ hy => by
 simp only [gl_er9_1, idx_nat, hy, Option.bind_some, ptb]
 by_cases e : x = y <;> simp [e]) (fun _ _ => rfl) h (fun _ _ => trivial)
theorem i_EqPtD {a b : List Pt} (h : a.length ≤ 3145728) : gf_dr9 a b = some (decide (a = b)) := eqd_listD (gl := gl_dr9_1) (ok := fun _ => True) (fun _ _ => rfl) (fun a x l k y _ hy => by
 simp only [gl_dr9_1, idx_nat, hy, Option.bind_some, ptb]
 by_cases e : x = y <;> simp [e]) (fun _ _ => rfl) h (fun _ _ => trivial)
theorem s_l2SameD {a b : List Tag} (h : a.length ≤ 3145728) : gf_et9 a b = some (decide (a = b)) := eqd_listD (gl := gl_et9_1) (ok := fun _ => True) (fun _ _ => rfl) (fun a x l k y _ hy => by
 simp only [gl_et9_1, idx_nat, hy, Option.bind_some, tagb]
 by_cases e : x = y <;> simp [e]) (fun _ _ => rfl) h (fun _ _ => trivial)
theorem i_EqTagD {a b : List Tag} (h : a.length ≤ 3145728) : gf_ds9 a b = some (decide (a = b)) := eqd_listD (gl := gl_ds9_1) (ok := fun _ => True) (fun _ _ => rfl) (fun a x l k y _ hy => by
 simp only [gl_ds9_1, idx_nat, hy, Option.bind_some, tagb]
 by_cases e : x = y <;> simp [e]) (fun _ _ => rfl) h (fun _ _ => trivial)
theorem s_l7IntsD {a b : List Int} (h : a.length ≤ 3145728) : gf_fe9 a b = some (decide (a = b)) := eqd_listD (gl := gl_fe9_1) (ok := fun _ => True) (fun _ _ => rfl) (fun a x l k y _ hy => by
 simp only [gl_fe9_1, idx_nat, hy, Option.bind_some]
 by_cases e : x = y <;> simp [e]) (fun _ _ => rfl) h (fun _ _ => trivial)
theorem i_EqIntD {a b : List Int} (h : a.length ≤ 3145728) : gf_dt9 a b = some (decide (a = b)) := eqd_listD (gl := gl_dt9_1) (ok := fun _ => True) (fun _ _ => rfl) (fun a x l k y _ hy => by
 simp only [gl_dt9_1, idx_nat, hy, Option.bind_some]
 by_cases e : x = y <;> simp [e]) (fun _ _ => rfl) h (fun _ _ => trivial)
theorem s_ShapeSameD {a b : Shape} (h : a.pts.length ≤ 3145728) : gf_ek9 a b = some (decide (a = b)) := by
 unfold gf_ek9
 rw [s_l1SameD h]
 obtain ⟨k, p⟩ := a; obtain ⟨k2, p2⟩ := b
 by_cases h1 : k = k2 <;> by_cases h2 : p = p2 <;> simp [h1, h2]
theorem s_FeatSameD {a b : Feat} (h : wFeat a ≤ 3145728) : gf_eg9 a b = some (decide (a = b)) := by
 unfold wFeat wShape wL at h
 unfold gf_eg9
 rw [s_ShapeSameD (by omega), s_l2SameD (by omega), seq_dec]
 obtain ⟨i, s, t⟩ := a; obtain ⟨i2, s2, t2⟩ := b
 by_cases h1 : i = i2 <;> by_cases h2 : s = s2 <;> by_cases h3 : t = t2 <;> simp [h1, h2, h3]
theorem i_ShapeSameD {a b : Shape} (h : a.pts.length ≤ 3145728) : gf_ao9 a b = some (decide (a = b)) := by
 unfold gf_ao9
 rw [i_EqPtD h]
 obtain ⟨k, p⟩ := a; obtain ⟨k2, p2⟩ := b
 by_cases h1 : k = k2 <;> by_cases h2 : p = p2 <;> simp [h1, h2]
theorem i_FeatSameD {a b : Feat} (h : wFeat a ≤ 3145728) : gf_af9 a b = some (decide (a = b)) := by
 unfold wFeat wShape wL at h
 unfold gf_af9
 rw [i_ShapeSameD (by omega), i_EqTagD (by omega), seq_dec]
 obtain ⟨i, s, t⟩ := a; obtain ⟨i2, s2, t2⟩ := b
 by_cases h1 : i = i2 <;> by_cases h2 : s = s2 <;> by_cases h3 : t = t2 <;> simp [h1, h2, h3]
theorem s_SheetSameD {a b : List Feat} (h : wL wFeat a ≤ 3145728) : gf_em9 a b = some (decide (a = b)) := eqd_listD (gl := gl_em9_1) (ok := fun x => wFeat x ≤ 3145728) (fun _ _ => rfl) (fun a x l k y hx hy => by
 simp only [gl_em9_1, idx_nat, hy, Option.bind_some, s_FeatSameD hx]
 by_cases e : x = y <;> simp [e]) (fun _ _ => rfl) (by unfold wL at h; omega) (fun x hx => by have := sum_mem (w := wFeat) hx; unfold wL at h; omega)
theorem i_EqFeatD {a b : List Feat} (h : wL wFeat a ≤ 3145728) : gf_dq9 a b = some (decide (a = b)) := eqd_listD (gl := gl_dq9_1) (ok := fun x => wFeat x ≤ 3145728) (fun _ _ => rfl) (fun a x l k y hx hy => by
 simp only [gl_dq9_1, idx_nat, hy, Option.bind_some, i_FeatSameD hx]
 by_cases e : x = y <;> simp [e]) (fun _ _ => rfl) (by unfold wL at h; omega) (fun x hx => by have := sum_mem (w := wFeat) hx; unfold wL at h; omega)
theorem i_SheetSameD {a b : List Feat} (h : wL wFeat a ≤ 3145728) : gf_aq9 a b = some (decide (a = b)) := by
 unfold gf_aq9
 rw [i_EqFeatD h]
 rfl
theorem s_sameCommitD {a b : Commit} (h : wCommit a ≤ 3145728) : gf_ff9 a b = some (decide (a = b)) := by
 unfold wCommit at h
 unfold gf_ff9
 rw [s_l7IntsD (by unfold wL at h; omega), s_SheetSameD (by omega), seq_dec]
 obtain ⟨i, s, t⟩ := a; obtain ⟨i2, s2, t2⟩ := b
 by_cases h1 : i = i2 <;> by_cases h2 : s = s2 <;> by_cases h3 : t = t2 <;> simp [h1, h2, h3]
theorem i_sameCommitD {a b : Commit} (h : wCommit a ≤ 3145728) : gf_bb9 a b = some (decide (a = b)) := by
 unfold wCommit at h
 unfold gf_bb9
 rw [i_EqIntD (by unfold wL at h; omega), i_SheetSameD (by omega), seq_dec]
 obtain ⟨i, s, t⟩ := a; obtain ⟨i2, s2, t2⟩ := b
 by_cases h1 : i = i2 <;> by_cases h2 : s = s2 <;> by_cases h3 : t = t2 <;> simp [h1, h2, h3]
theorem s_l7FindD {r : Repo} {c : Commit} (h : wL wCommit r.commits ≤ 3145728) : gf_fc9 r c = some (mFind r.commits c) := by
 unfold gf_fc9 mFind
 rw [if_pos (fits_two (by unfold wL at h; omega))]
 exact loopF (gl := gl_fc9_1 c) (ok := fun x => wCommit x ≤ 3145728) (fun _ => rfl) (fun x l k hx => by simp only [gl_fc9_1, s_sameCommitD hx, Option.bind_some]) _ 0 fun x hx => by have := sum_mem (w := wCommit) hx; unfold wL at h; omega
theorem i_Repo_commitD {r : Repo} {c : Commit} (h : wL wCommit r.commits ≤ 3145728) : gf_ai9 r c = some (mFind r.commits c) := by
 have key : gf_dv9 r.commits c = some (mFind r.commits c) := by
  unfold gf_dv9 mFind
  rw [if_pos (fits_two (by unfold wL at h; omega))]
  exact loopF (gl := gl_dv9_1 c) (ok := fun x => wCommit x ≤ 3145728) (fun _ => rfl) (fun x l k hx => by simp only [gl_dv9_1, gf_aj9, i_sameCommitD hx, Option.bind_some]) _ 0 fun x hx => by have := sum_mem (w := wCommit) hx; unfold wL at h; omega
 unfold gf_ai9
 rw [key]
 rfl
theorem s_l7HeadD {r : Repo} {n : Str} (h : r.heads.length ≤ 3145728) : gf_fd9 r n = some (mHead r.heads n) := by
 unfold gf_fd9 mHead
 rw [if_pos (fits_two h)]
 exact loopF (gl := gl_fd9_1 n) (ok := fun _ => True) (fun _ => rfl) (fun x l k _ => by simp only [gl_fd9_1, seq_dec]) _ 0 fun _ _ => trivial
theorem i_Repo_headD {r : Repo} {n : Str} (h : r.heads.length ≤ 3145728) : gf_ak9 r n = some (mHead r.heads n) := by
 have key : gf_dz9 r.heads n = some (mHead r.heads n) := by
  unfold gf_dz9 mHead
  rw [if_pos (fits_two h)]
  exact loopF (gl := gl_dz9_1 n) (ok := fun _ => True) (fun _ => rfl) (fun x l k _ => by simp only [gl_dz9_1, gf_al9, seq_dec, Option.bind_some]) _ 0 fun _ _ => trivial
 unfold gf_ak9
 rw [key]
 rfl
theorem s_l7UpD {up : List Int} {k : Nat} (h : up.length ≤ 3145728) : gf_fg9 up (k : Int) = some (mUp up k) := by
 unfold gf_fg9 mUp
 rw [if_pos (fits_two h), loopB (gl := gl_fg9_1 (k : Int)) (p := fun (x : Int) _ => decide (0 ≤ x) && decide (x < (k : Int))) (xs := up) (fun _ => rfl) (fun x l j _ => ?_) up 0 rfl]
 ·generalize allFrom (fun (x : Int) _ => decide (0 ≤ x) && decide (x < (k : Int))) up 0 = A
  cases A
  ·rfl
  ·have e1 : decide ((k : Int) > 0) = decide (0 < k) := posI
   match up with
   | [] => cases e : decide (0 < k) <;> simp [e1, e]
   | [a] => cases e : decide (0 < k) <;> simp [e1, e]
   | [a, b] =>
    have i0 : idx [a, b] 0 = some a := rfl
    have i1 : idx [a, b] 1 = some b := rfl
    by_cases e2 : a = b
    ·subst e2
     cases e : decide (0 < k) <;> simp [e1, e, i0, i1]
    ·cases e : decide (0 < k) <;> simp [e1, e, i0, i1, e2]
   | a :: b :: c :: l =>
    have e2 : ¬ ((l.length : Int) + 1 + 1 + 1 ≤ 2) := by omega
    simp [e2]
 ·have e1 : (x ≥ (k : Int)) ↔ ¬ x < (k : Int) := by omega
  have e2 : (x < 0) ↔ ¬ 0 ≤ x := by omega
  simp only [gl_fg9_1, e1, e2]
  by_cases h1 : 0 ≤ x <;> by_cases h2 : x < (k : Int) <;> simp [h1, h2]
theorem s_RepoOkD {r : Repo} (h : wRepo r ≤ 3145728) : gf_ei9 r = some (mRepo r) := by
 unfold wRepo at h
 have hc : wL wCommit r.commits ≤ 3145728 := by omega
 have hh : wL wHead r.heads ≤ 3145728 := by omega
 have hcl : r.commits.length ≤ 3145728 := by unfold wL at hc; omega
 have hhl : r.heads.length ≤ 3145728 := by unfold wL at hh; omega
 have c1 : ((r.commits.length : Int) < 1) ↔ ¬ 1 ≤ r.commits.length := by omega
 have c2 : ((r.commits.length : Int) > 14) ↔ ¬ r.commits.length ≤ 14 := by omega
 have c3 : ((r.heads.length : Int) < 1) ↔ ¬ 1 ≤ r.heads.length := by omega
 have c4 : ((r.heads.length : Int) > 4) ↔ ¬ r.heads.length ≤ 4 := by omega
 have k1 : gl_ei9_1 r r.commits 0 = some (if mCommits r.commits = true then .inr () else .inl false) := by
  refine loopB (gl := gl_ei9_1 r) (p := fun c k => mUp c.up k && (mSheet c.sheet && (mWord c.note && decide (mFind r.commits c = (k : Int))))) (xs := r.commits) (fun _ => rfl) (fun x l k hd => ?_) r.commits 0 rfl
  have hx : x ∈ r.commits := List.mem_of_getElem? (drop_get hd)
  have hs := sum_mem (w := wCommit) hx
  have e0 : wCommit x = wL w0 x.up + (wL wFeat x.sheet + (x.note.size + 0)) := rfl
  have hs' : wCommit x ≤ 3145728 := by unfold wL at hc; omega
  have hu : x.up.length ≤ 3145728 := by have : wL w0 x.up = x.up.length + sumW w0 x.up := rfl; omega
  simp only [gl_ei9_1, s_l7UpD hu, s_SheetOkD (fs := x.sheet) (by omega), s_WordOkD (s := x.note) (by omega), s_l7FindD hc, Option.bind_some]
  by_cases e : mFind r.commits x = (k : Int) <;> cases mUp x.up k <;> cases mSheet x.sheet <;> cases mWord x.note <;> simp [e]
 have k2 : gl_ei9_2 r r.heads 0 = some (if mHeads r.commits.length r.heads = true then .inr () else .inl false) := by
  refine loopB (gl := gl_ei9_2 r) (p := fun h k => mWord h.name && (decide (mHead r.heads h.name = (k : Int)) && (decide (0 ≤ h.at_) && decide (h.at_ < (r.commits.length : Int))))) (xs := r.heads) (fun _ => rfl) (fun x l k hd => ?_) r.heads 0 rfl
  have hx : x ∈ r.heads := List.mem_of_getElem? (drop_get hd)
  have hs := sum_mem (w := wHead) hx
  have e0 : wHead x = x.name.size + 0 := rfl
  have hs' : x.name.size ≤ 3145728 := by unfold wL at hh; omega
  have d1 : (x.at_ < 0) ↔ ¬ 0 ≤ x.at_ := by omega
  have d2 : (x.at_ ≥ (r.commits.length : Int)) ↔ ¬ x.at_ < (r.commits.length : Int) := by omega
  simp only [gl_ei9_2, s_WordOkD hs', s_l7HeadD hhl, Option.bind_some, d1, d2]
  by_cases e : mHead r.heads x.name = (k : Int) <;> by_cases e1 : 0 ≤ x.at_ <;> by_cases e2 : x.at_ < (r.commits.length : Int) <;> cases mWord x.name <;> simp [e, e1, e2]
 unfold gf_ei9 mRepo
 rw [k1, k2, if_pos (fits_two hcl), if_pos (fits_two hhl)]
 simp only [c1, c2, c3, c4]
 by_cases h1 : 1 ≤ r.commits.length <;> by_cases h2 : r.commits.length ≤ 14 <;> by_cases h3 : 1 ≤ r.heads.length <;> by_cases h4 : r.heads.length ≤ 4 <;> cases mCommits r.commits <;> cases mHeads r.commits.length r.heads <;> simp [h1, h2, h3, h4]
theorem i_versionD {r : Repo} {k : Int} (h : r.commits.length ≤ 3145728) : gf_am9 r k = some (decide (0 ≤ k) && decide (k < (r.commits.length : Int))) := by
 unfold gf_am9
 rw [wrap_id (by omega) (by omega), i_within]
 have e : (k ≤ (r.commits.length : Int) - 1) ↔ k < (r.commits.length : Int) := by omega
 simp [e]
theorem i_up5D {c : Commit} {k : Nat} (hk : k ≤ 3145728) (h : c.up.length ≤ 2) : gl_ah9_5 k c c.up 0 = some (if (allFrom (fun (x : Int) _ => decide (0 ≤ x) && decide (x < (k : Int))) c.up 0 && decide (c.up[0]? = none ∨ c.up[0]? ≠ c.up[1]?)) = true then .inr () else .inl false) := by
 have hw : IntKind.i64.wrap ((k : Int) - 1) = (k : Int) - 1 := wrap_id (by omega) (by omega)
 have hi : ∀ x : Int, (x ≤ (k : Int) - 1) ↔ x < (k : Int) := fun x => by omega
 obtain ⟨up, sh, nt⟩ := c
 match up, h with
 | [], _ => rfl
 | [a], _ =>
  have s0 : slc [a] 0 ((0 : Nat) : Int) = some [] := by simp [slc]
  simp only [gl_ah9_5, i_within, hw, hi, Option.bind_some, s0, i_Contains0, allFrom]
  by_cases h1 : 0 ≤ a <;> by_cases h2 : a < (k : Int) <;> simp [h1, h2]
 | [a, b], _ =>
  have s0 : slc [a, b] 0 ((0 : Nat) : Int) = some [] := by simp [slc]
  have s1 : slc [a, b] 0 ((0 + 1 : Nat) : Int) = some [a] := by simp [slc]
  simp only [gl_ah9_5, i_within, hw, hi, Option.bind_some, s0, s1, i_Contains0, i_Contains1, allFrom]
  by_cases e : b = a
  ·subst e
   by_cases h1 : 0 ≤ b <;> by_cases h2 : b < (k : Int) <;> simp [h1, h2]
  ·have e' : ¬ a = b := fun h => e h.symm
   by_cases h1 : 0 ≤ a <;> by_cases h2 : a < (k : Int) <;> by_cases h3 : 0 ≤ b <;> by_cases h4 : b < (k : Int) <;> simp [h1, h2, h3, h4, e, e']
 | _ :: _ :: _ :: _, h => simp at h
theorem i_RepoOkD {r : Repo} (h : wRepo r ≤ 3145728) : gf_ah9 r = some (mRepo r) := by
 unfold wRepo at h
 have hc : wL wCommit r.commits ≤ 3145728 := by omega
 have hh : wL wHead r.heads ≤ 3145728 := by omega
 have hcl : r.commits.length ≤ 3145728 := by unfold wL at hc; omega
 have hhl : r.heads.length ≤ 3145728 := by unfold wL at hh; omega
 have c1 : ((1 : Int) ≤ r.commits.length) ↔ 1 ≤ r.commits.length := by omega
 have c2 : ((r.commits.length : Int) ≤ 14) ↔ r.commits.length ≤ 14 := by omega
 have c3 : ((1 : Int) ≤ r.heads.length) ↔ 1 ≤ r.heads.length := by omega
 have c4 : ((r.heads.length : Int) ≤ 4) ↔ r.heads.length ≤ 4 := by omega
 have k1 : gl_ah9_4 r r.commits 0 = some (if mCommits r.commits = true then .inr () else .inl false) := by
  refine loopB (gl := gl_ah9_4 r) (p := fun c k => mUp c.up k && (mSheet c.sheet && (mWord c.note && decide (mFind r.commits c = (k : Int))))) (xs := r.commits) (fun _ => rfl) (fun x l k hd => ?_) r.commits 0 rfl
  have hx : x ∈ r.commits := List.mem_of_getElem? (drop_get hd)
  have hkl := drop_len hd
  have hs := sum_mem (w := wCommit) hx
  have e0 : wCommit x = wL w0 x.up + (wL wFeat x.sheet + (x.note.size + 0)) := rfl
  have hs' : wCommit x ≤ 3145728 := by unfold wL at hc; omega
  have hu : x.up.length ≤ 3145728 := by have : wL w0 x.up = x.up.length + sumW w0 x.up := rfl; omega
  have d1 : (((k : Int) == 0) == ((x.up.length : Int) == 0)) = (decide (0 < x.up.length) == decide (0 < k)) := by
   rw [zI, zI, posD, posD]
   cases decide (k = 0) <;> cases decide (x.up.length = 0) <;> rfl
  have d2 : ((x.up.length : Int) > 2) ↔ ¬ x.up.length ≤ 2 := by omega
  obtain ⟨B, hB⟩ : ∃ B, (decide (0 < x.up.length) == decide (0 < k)) = B := ⟨_, rfl⟩
  rw [hB] at d1
  simp only [gl_ah9_4, i_SheetOkD (fs := x.sheet) (by omega), i_WordOkD (s := x.note) (by omega), i_Repo_commitD hc, Option.bind_some, d1, d2, mUp, hB]
  clear d1 hB
  by_cases b : x.up.length ≤ 2
  ·rw [i_up5D (by omega) b, if_pos (fits_two hu)]
   obtain ⟨D, hD⟩ : ∃ D, (decide (x.up[0]? = none ∨ x.up[0]? ≠ x.up[1]?)) = D := ⟨_, rfl⟩
   rw [hD]
   clear hD
   by_cases e : mFind r.commits x = (k : Int) <;> cases B <;> cases mSheet x.sheet <;> cases mWord x.note <;> cases allFrom (fun (x : Int) _ => decide (0 ≤ x) && decide (x < (k : Int))) x.up 0 <;> cases D <;> simp [e, b]
  ·by_cases e : mFind r.commits x = (k : Int) <;> cases B <;> cases mSheet x.sheet <;> cases mWord x.note <;> simp [e, b]
 have k2 : gl_ah9_6 r r.heads 0 = some (if mHeads r.commits.length r.heads = true then .inr () else .inl false) := by
  refine loopB (gl := gl_ah9_6 r) (p := fun h k => mWord h.name && (decide (mHead r.heads h.name = (k : Int)) && (decide (0 ≤ h.at_) && decide (h.at_ < (r.commits.length : Int))))) (xs := r.heads) (fun _ => rfl) (fun x l k hd => ?_) r.heads 0 rfl
  have hx : x ∈ r.heads := List.mem_of_getElem? (drop_get hd)
  have hs := sum_mem (w := wHead) hx
  have e0 : wHead x = x.name.size + 0 := rfl
  have hs' : x.name.size ≤ 3145728 := by unfold wL at hh; omega
  simp only [gl_ah9_6, i_WordOkD hs', i_Repo_headD hhl, i_versionD hcl, Option.bind_some]
  by_cases e : mHead r.heads x.name = (k : Int) <;> by_cases e1 : 0 ≤ x.at_ <;> by_cases e2 : x.at_ < (r.commits.length : Int) <;> cases mWord x.name <;> simp [e, e1, e2]
 unfold gf_ah9 mRepo
 rw [k1, k2, if_pos (fits_two hcl), if_pos (fits_two hhl), i_within, i_within]
 simp only [c1, c2, c3, c4, Option.bind_some]
 by_cases h1 : 1 ≤ r.commits.length <;> by_cases h2 : r.commits.length ≤ 14 <;> by_cases h3 : 1 ≤ r.heads.length <;> by_cases h4 : r.heads.length ≤ 4 <;> cases mCommits r.commits <;> cases mHeads r.commits.length r.heads <;> simp [h1, h2, h3, h4]
theorem cpa_loopD {α : Type} {g : α → Option α} {gl : List α → Nat → List α → Option (List α)} (h0 : ∀ k v, gl [] k v = some v) (h1 : ∀ x l k v, gl (x :: l) k v = (g x).bind fun y => if fits (v ++ [y]).length = true then gl l (k + 1) (v ++ [y]) else none) : ∀ (l : List α) (k : Nat) (v : List α), (∀ x ∈ l, g x = some x) → v.length + l.length ≤ 3145728 → gl l k v = some (v ++ l)
 | [], k, v, _, _ => by rw [h0]; simp
 | x :: l, k, v, hx, hl => by
  simp only [List.length_cons] at hl
  rw [h1, hx x (by simp)]
  simp only [Option.bind_some]
  rw [if_pos (fits_two (by simp; omega)), cpa_loopD h0 h1 l (k + 1) _ (fun y hy => hx y (by simp [hy])) (by simp; omega)]
  simp
theorem i_cloneFeatD {f : Feat} (h : wFeat f ≤ 3145728) : gf_at9 f = some f := by
 unfold wFeat wShape wL at h
 unfold gf_at9 gf_av9
 rw [if_pos (fits_two (by simp; omega))]
 simp only [Option.bind_some]
 rw [if_pos (fits_two (by simp; omega))]
 rfl
theorem i_cloneSheetD {fs : List Feat} (h : wL wFeat fs ≤ 3145728) : gf_aw9 fs = some fs := by
 have hl : fs.length ≤ 3145728 := by unfold wL at h; omega
 unfold gf_aw9
 rw [if_pos (fits_two hl), cpa_loopD (gl := gl_aw9_1) (fun _ _ => rfl) (fun _ _ _ _ => rfl) fs 0 [] (fun x hx => i_cloneFeatD (by have := sum_mem (w := wFeat) hx; unfold wL at h; omega)) (by simpa using hl)]
 rfl
theorem i_cloneCommitD {c : Commit} (h : wCommit c ≤ 3145728) : gf_as9 c = some c := by
 unfold wCommit at h
 unfold gf_as9
 rw [if_pos (fits_two (by unfold wL at h; simp; omega)), i_cloneSheetD (by omega)]
 rfl
theorem i_cloneRepoD {r : Repo} (h : wRepo r ≤ 3145728) : gf_au9 r = some r := by
 unfold wRepo at h
 have hl : r.commits.length ≤ 3145728 := by unfold wL at h; omega
 unfold gf_au9
 rw [if_pos (fits_two (by unfold wL at h; simp; omega)), if_pos (fits_two hl), cpa_loopD (gl := gl_au9_1) (fun _ _ => rfl) (fun _ _ _ _ => rfl) r.commits 0 [] (fun x hx => i_cloneCommitD (by have := sum_mem (w := wCommit) hx; unfold wL at h; omega)) (by simpa using hl)]
 rfl
def nF : Feat := ⟨⟨#[]⟩, ⟨0, []⟩, []⟩
theorem fst_find {α : Type} {p : α → Bool} : ∀ (l : List α) (k : Nat), (l.find? p = none ∧ fstFrom p l k = -1) ∨ ∃ j x, l.find? p = some x ∧ fstFrom p l k = ((k + j : Nat) : Int) ∧ l[j]? = some x ∧ p x = true
 | [], k => .inl ⟨rfl, rfl⟩
 | y :: l, k => by
  simp only [List.find?_cons, fstFrom]
  cases hp : p y
  ·rcases fst_find (p := p) l (k + 1) with ⟨h1, h2⟩ | ⟨j, x, h1, h2, h3, h4⟩
   ·exact .inl ⟨h1, by simpa using h2⟩
   ·exact .inr ⟨j + 1, x, h1, by simp only [h2]; simp; omega, h3, h4⟩
  ·exact .inr ⟨0, y, rfl, by simp, rfl, hp⟩
def mSide (s : List Feat) (id : Str) : Feat × Bool := match s.find? (fun f : Feat => decide (f.id = id)) with
 | some f => (f, true)
 | none => (nF, false)
theorem i_featAt {s : List Feat} {id : Str} (hl : s.length ≤ 1048576) : gf_ax9 s id = some (fstFrom (fun f : Feat => decide (f.id = id)) s 0) := by
 unfold gf_ax9 gf_dx9
 have h := loopF (gl := gl_dx9_1 id) (p := fun f : Feat => decide (f.id = id)) (ok := fun _ => True) (fun _ => rfl) (fun x l k _ => by simp only [gl_dx9_1, gf_ay9, seq_dec, Option.bind_some]) s 0 (fun _ _ => trivial)
 rw [if_pos (fits_small hl)]
 exact (congrArg (fun o => Option.bind o fun x2 => some x2) h)
theorem s_l3Find {s : List Feat} {id : Str} (hl : s.length ≤ 1048576) : gf_ex9 s id = some (fstFrom (fun f : Feat => decide (f.id = id)) s 0) := by
 unfold gf_ex9
 have h := loopF (gl := gl_ex9_1 id) (p := fun f : Feat => decide (f.id = id)) (ok := fun _ => True) (fun _ => rfl) (fun x l k _ => by simp only [gl_ex9_1, seq_dec]) s 0 (fun _ _ => trivial)
 rw [if_pos (fits_small hl)]
 exact h
theorem i_side {s : List Feat} {id : Str} (h : wL wFeat s ≤ 1048576) : gf_bc9 s id = some (mSide s id) := by
 have hl : s.length ≤ 1048576 := by unfold wL at h; omega
 unfold gf_bc9 mSide
 rw [i_featAt hl, Option.bind_some]
 rcases fst_find (p := fun f : Feat => decide (f.id = id)) s 0 with ⟨h1, h2⟩ | ⟨j, x, h1, h2, h3, h4⟩
 ·rw [h1, h2]; rfl
 ·have hx := sum_mem (w := wFeat) (List.mem_of_getElem? h3)
  rw [h1, h2, if_neg (by simp), idx_nat, Nat.zero_add, h3, Option.bind_some, i_cloneFeat (by unfold wL at h; omega)]
  rfl
theorem s_l4Side {s : List Feat} {id : Str} (h : wL wFeat s ≤ 1048576) : gf_fb9 s id = some (mSide s id) := by
 have hl : s.length ≤ 1048576 := by unfold wL at h; omega
 unfold gf_fb9 mSide
 rw [s_l3Find hl, Option.bind_some]
 rcases fst_find (p := fun f : Feat => decide (f.id = id)) s 0 with ⟨h1, h2⟩ | ⟨j, x, h1, h2, h3, h4⟩
 ·rw [h1, h2]; rfl
 ·have hx := sum_mem (w := wFeat) (List.mem_of_getElem? h3)
  rw [h1, h2, if_neg (by simp), idx_nat, Nat.zero_add, h3, Option.bind_some, s_l2Copy (by unfold wL at h; omega)]
  rfl
def mSideOk (id : Str) (had : Bool) (f : Feat) : Bool := if had = true then mFeat f && decide (f.id = id) else decide (f = nF)
def mOne (c : Change) : Bool := mWord c.id && (mSideOk c.id c.had c.was && (mSideOk c.id c.has c.now && !((c.had == c.has) && decide (c.was = c.now))))
def mDiff (d : List Change) : Bool := allFrom (fun c k => mOne c && (decide (k = 0) || mPrev Change.id d c k)) d 0 && decide (d.length ≤ 16)
theorem i_noFeat (f : Feat) : gf_az9 f = some (decide (f = nF)) := by
 obtain ⟨i, ⟨k, p⟩, t⟩ := f
 unfold gf_az9 nF
 simp only [seq_dec]
 by_cases h1 : i = ⟨#[]⟩
 ·by_cases h2 : k = 0
  ·cases p
   ·cases t
    ·simp [h1, h2]
    ·simp [h1, h2]; omega
   ·simp [h1, h2]; omega
  ·simp [h1, h2]
 ·simp [h1]
theorem i_sideOk {id : Str} {had : Bool} {f : Feat} (h : wFeat f ≤ 1048576) : gf_bd9 id had f = some (mSideOk id had f) := by
 unfold gf_bd9 mSideOk
 rw [i_noFeat, i_FeatOk h, seq_dec]
 cases had <;> cases mFeat f <;> simp
theorem i_Change_same {c : Change} (h : wChange c ≤ 1048576) : gf_aa9 c = some ((c.had == c.has) && decide (c.was = c.now)) := by
 unfold wChange at h
 unfold gf_aa9
 rw [i_FeatSame (by omega)]
 cases c.had <;> cases c.has <;> simp
theorem s_l4One {c : Change} (h : wChange c ≤ 1048576) : gf_fa9 c = some (mOne c) := by
 unfold wChange at h
 obtain ⟨id, had, was, has, now⟩ := c
 simp only at h
 unfold gf_fa9 mOne mSideOk
 simp only [s_WordOk (s := id) (by omega), s_FeatSame (a := was) (by omega), s_FeatSame (a := now) (by omega), s_FeatOk (f := was) (by omega), s_FeatOk (f := now) (by omega), seq_dec, Option.bind_some, show (⟨(⟨#[]⟩ : Str), ⟨0, []⟩, []⟩ : Feat) = nF from rfl]
 cases mWord id
 ·simp
 ·cases had <;> cases has
  ·by_cases h1 : was = nF <;> by_cases h2 : now = nF <;> simp [h1, h2]
  ·by_cases h1 : was = nF <;> cases mFeat now <;> by_cases h2 : now.id = id <;> simp [h1, h2]
  ·by_cases h1 : now = nF <;> cases mFeat was <;> by_cases h2 : was.id = id <;> simp [h1, h2]
  ·by_cases h0 : was = now
   ·simp [h0]
   ·cases mFeat was <;> cases mFeat now <;> by_cases h1 : was.id = id <;> by_cases h2 : now.id = id <;> simp [h0, h1, h2]
theorem s_DiffOk {d : List Change} (h : wL wChange d ≤ 1048576) : gf_ee9 d = some (mDiff d) := by
 have hlen : d.length ≤ 1048576 := by unfold wL at h; omega
 unfold gf_ee9 mDiff
 rw [if_pos (fits_small hlen), loopB (gl := gl_ee9_1 d) (p := fun c k => mOne c && (decide (k = 0) || mPrev Change.id d c k)) (xs := d) (fun _ => rfl) (fun x l k hd => ?_) d 0 rfl]
 ·rw [show decide ((d.length : Int) ≤ 16) = decide (d.length ≤ 16) from decI]
  exact endB
 ·have hx : x ∈ d := List.mem_of_getElem? (drop_get hd)
  have hs := sum_mem (w := wChange) hx
  unfold wL at h
  simp only [gl_ee9_1, s_l4One (c := x) (by omega), Option.bind_some, posI, slt_seq]
  rcases Nat.eq_zero_or_pos k with rfl | hk
  ·cases mOne x <;> simp
  ·obtain ⟨z, hz⟩ := drop_prev hd hk
   have hl := drop_len hd
   have hw := wrap_pred hk (by omega)
   rw [hw, idx_nat, hz]
   have hk' : ¬ k = 0 := by omega
   cases e : slt z.id x.id <;> cases mOne x <;> simp [hk, hk', hz, e, mPrev]
theorem i_DiffOk {d : List Change} (h : wL wChange d ≤ 1048576) : gf_ad9 d = some (mDiff d) := by
 have hlen : d.length ≤ 1048576 := by unfold wL at h; omega
 unfold gf_ad9 mDiff
 rw [if_pos (fits_small hlen), loopB (gl := gl_ad9_1 d) (p := fun c k => mOne c && (decide (k = 0) || mPrev Change.id d c k)) (xs := d) (fun _ => rfl) (fun x l k hd => ?_) d 0 rfl]
 ·rw [show decide ((d.length : Int) ≤ 16) = decide (d.length ≤ 16) from decI]
  exact endB
 ·have hx : x ∈ d := List.mem_of_getElem? (drop_get hd)
  have hs := sum_mem (w := wChange) hx
  unfold wL at h
  have h0 : wChange x ≤ 1048576 := by omega
  have e0 : wChange x = x.id.size + (wFeat x.was + (wFeat x.now + 0)) := rfl
  unfold mOne
  simp only [gl_ad9_1, i_WordOk (s := x.id) (by omega), i_sideOk (f := x.was) (by omega), i_sideOk (f := x.now) (by omega), i_Change_same h0, Option.bind_some, posI]
  generalize ((x.had == x.has) && decide (x.was = x.now)) = q
  rcases Nat.eq_zero_or_pos k with rfl | hk
  ·cases mWord x.id <;> cases mSideOk x.id x.had x.was <;> cases mSideOk x.id x.has x.now <;> cases q <;> simp
  ·obtain ⟨z, hz⟩ := drop_prev hd hk
   have hl := drop_len hd
   have hw := wrap_pred hk (by omega)
   rw [hw, idx_nat, hz]
   have hk' : ¬ k = 0 := by omega
   cases e : slt z.id x.id <;> cases mWord x.id <;> cases mSideOk x.id x.had x.was <;> cases mSideOk x.id x.has x.now <;> cases q <;> simp [hk, hk', hz, e, mPrev]
def mCutF (s : List Feat) (id : Str) : List Feat := s.filter fun y => !decide (y.id = id)
def mPut (f : Feat) : List Feat → List Feat
 | [] => [f]
 | x :: l => if slt x.id f.id = true then x :: mPut f l else f :: mCutF (x :: l) f.id
theorem slt_ne {a b : Str} (h : slt a b = true) : a ≠ b := fun e => by
 rw [e, slt_sw.irrefl] at h
 cases h
theorem mCutF_cons {x : Feat} {l : List Feat} {id : Str} : mCutF (x :: l) id = if x.id = id then mCutF l id else x :: mCutF l id := by
 unfold mCutF
 rw [List.filter_cons]
 by_cases h : x.id = id <;> simp [h]
theorem put_done {f : Feat} : ∀ (l : List Feat) (k : Nat) (v : List Feat), v.length + l.length ≤ 1048576 → gl_ey9_1 f l k true v = some (true, v ++ mCutF l f.id)
 | [], k, v, _ => by simp [gl_ey9_1, mCutF]
 | x :: l, k, v, h => by
  simp only [List.length_cons] at h
  simp only [gl_ey9_1, seq_dec, Bool.not_true, Bool.false_eq_true, if_false, Option.bind_some]
  rw [mCutF_cons]
  by_cases e : x.id = f.id
  ·rw [if_neg (by simp [e]), put_done l (k + 1) v (by omega), if_pos e]
  ·rw [if_pos (by simp [e]), if_pos (fits_small (by simp; omega)), put_done l (k + 1) _ (by simp; omega), if_neg e]
   simp
theorem put_todo {f : Feat} : ∀ (l : List Feat) (k : Nat) (v : List Feat), v.length + l.length + 1 ≤ 1048576 → ∃ d o, gl_ey9_1 f l k false v = some (d, o) ∧ (if d = true then o else o ++ [f]) = v ++ mPut f l
 | [], k, v, _ => ⟨false, v, rfl, by simp [mPut]⟩
 | x :: l, k, v, h => by
  simp only [List.length_cons] at h
  simp only [gl_ey9_1, seq_dec, Bool.not_false, if_true, mPut]
  by_cases e : slt x.id f.id = true
  ·have hn := slt_ne e
   obtain ⟨d, o, h1, h2⟩ := put_todo l (k + 1) (v ++ [x]) (by simp; omega)
   refine ⟨d, o, ?_, by rw [h2, if_pos e]; simp⟩
   rw [if_neg (by simp [e]), Option.bind_some]
   simp only
   rw [if_pos (by simp [hn]), if_pos (fits_small (by simp; omega)), h1]
  ·rw [if_pos (by simpa using e), if_pos (fits_small (by simp; omega)), Option.bind_some]
   simp only
   rw [if_neg e, mCutF_cons]
   by_cases e2 : x.id = f.id
   ·rw [if_neg (by simp [e2]), put_done l (k + 1) _ (by simp; omega), if_pos e2]
    exact ⟨true, _, rfl, by simp⟩
   ·rw [if_pos (by simp [e2]), if_pos (fits_small (by simp; omega)), put_done l (k + 1) _ (by simp; omega), if_neg e2]
    exact ⟨true, _, rfl, by simp⟩
theorem mPut_len {f : Feat} : ∀ (l : List Feat), (mPut f l).length ≤ l.length + 1
 | [] => by simp [mPut]
 | x :: l => by
  have := mPut_len (f := f) l
  have h2 : (mCutF (x :: l) f.id).length ≤ (x :: l).length := List.length_filter_le _ _
  unfold mPut
  split
  ·simp only [List.length_cons]; omega
  ·simp only [List.length_cons] at h2 ⊢; omega
theorem s_l3Put {s : List Feat} {f : Feat} (h : s.length + 1 ≤ 1048576) : gf_ey9 s f = some (mPut f s) := by
 obtain ⟨d, o, h1, h2⟩ := put_todo (f := f) s 0 [] (by simp; omega)
 have h3 := mPut_len (f := f) s
 simp only [List.nil_append] at h2
 unfold gf_ey9
 rw [if_pos (fits_small (by omega)), h1, Option.bind_some]
 cases d
 ·simp only [Bool.not_false, if_true]
  simp only [Bool.false_eq_true, if_false] at h2
  rw [if_pos (fits_small (by rw [h2]; omega)), h2]
 ·simp only [if_true] at h2
  simp [h2]
theorem s_l3Cut {s : List Feat} {id : Str} (h : s.length ≤ 1048576) : gf_ew9 s id = some (mCutF s id) := by
 have key : ∀ (l : List Feat) (k : Nat) (v : List Feat), v.length + l.length ≤ 1048576 → gl_ew9_1 id l k v = some (v ++ mCutF l id) := by
  intro l
  induction l with
  | nil => intro k v _; simp [gl_ew9_1, mCutF]
  | cons x l ih =>
   intro k v h
   simp only [List.length_cons] at h
   simp only [gl_ew9_1, seq_dec]
   rw [mCutF_cons]
   by_cases e : x.id = id
   ·rw [if_neg (by simp [e]), ih _ _ (by omega), if_pos e]
   ·rw [if_pos (by simp [e]), if_pos (fits_small (by simp; omega)), ih _ _ (by simp; omega), if_neg e]
    simp
 unfold gf_ew9
 rw [if_pos (fits_small h), key s 0 [] (by simpa using h)]
 rfl
def Pw (v : List Feat) : Prop := v.Pairwise fun a b => slt a.id b.id = true
theorem mPut_mem {f : Feat} : ∀ {l : List Feat} {y : Feat}, y ∈ mPut f l → y = f ∨ y ∈ l
 | [], y, h => by simpa [mPut] using h
 | x :: l, y, h => by
  unfold mPut at h
  split at h
  ·rcases List.mem_cons.1 h with h | h
   ·exact .inr (by simp [h])
   ·rcases mPut_mem h with h | h
    ·exact .inl h
    ·exact .inr (by simp [h])
  ·rcases List.mem_cons.1 h with h | h
   ·exact .inl h
   ·exact .inr (List.mem_filter.1 h).1
theorem mPut_pw {f : Feat} : ∀ {l : List Feat}, Pw l → Pw (mPut f l)
 | [], _ => by simp [mPut, Pw]
 | x :: l, h => by
  unfold Pw at h
  rw [List.pairwise_cons] at h
  unfold mPut
  by_cases e : slt x.id f.id = true
  ·rw [if_pos e]
   unfold Pw
   rw [List.pairwise_cons]
   refine ⟨fun y hy => ?_, mPut_pw h.2⟩
   rcases mPut_mem hy with rfl | hy
   ·exact e
   ·exact h.1 y hy
  ·rw [if_neg e]
   unfold Pw
   rw [List.pairwise_cons]
   refine ⟨fun y hy => ?_, List.Pairwise.filter _ (List.pairwise_cons.2 h)⟩
   obtain ⟨hy, hn⟩ := List.mem_filter.1 hy
   simp only [Bool.not_eq_true', decide_eq_false_iff_not] at hn
   have hf : slt x.id f.id = false := by simpa using e
   have hxy : slt y.id f.id = false := by
    rcases List.mem_cons.1 hy with rfl | hy
    ·exact hf
    ·cases h2 : slt y.id f.id
     ·rfl
     ·rw [slt_sw.trans _ _ _ (h.1 y hy) h2] at hf; cases hf
   cases h3 : slt f.id y.id
   ·exact absurd (slt_anti hxy h3) hn
   ·rfl
theorem mPut_perm {f : Feat} : ∀ {l : List Feat}, (mPut f l).Perm (f :: mCutF l f.id)
 | [] => by simp [mPut, mCutF]
 | x :: l => by
  unfold mPut
  by_cases e : slt x.id f.id = true
  ·rw [if_pos e, mCutF_cons, if_neg (slt_ne e)]
   exact (List.Perm.cons x mPut_perm).trans (List.Perm.swap f x _)
  ·rw [if_neg e]
theorem pw_nodup {v : List Feat} (h : Pw v) : (v.map (·.id)).Nodup := by
 unfold List.Nodup
 rw [List.pairwise_map]
 exact h.imp fun h => slt_ne h
theorem mSheet_pw {s : List Feat} (h : mSheet s = true) : Pw s := by
 unfold mSheet at h
 rw [Bool.and_eq_true] at h
 have key : ∀ k x y, s[k]? = some x → s[k + 1]? = some y → slt x.id y.id = true := by
  intro k x y hx hy
  have := allFrom_get h.1 (k + 1) y hy
  simp only [Nat.zero_add, Bool.and_eq_true, Bool.or_eq_true, decide_eq_true_eq, mPrev, Nat.add_sub_cancel, hx] at this
  rcases this.2 with h | h
  ·omega
  ·exact h
 clear h
 induction s with
 | nil => exact List.Pairwise.nil
 | cons a s ih =>
  have ih := ih fun k x y hx hy => key (k + 1) x y hx hy
  unfold Pw
  rw [List.pairwise_cons]
  refine ⟨?_, ih⟩
  cases s with
  | nil => intro y hy; cases hy
  | cons b s =>
   have h1 := key 0 a b rfl rfl
   have ih2 := ih
   unfold Pw at ih2
   rw [List.pairwise_cons] at ih2
   intro y hy
   rcases List.mem_cons.1 hy with rfl | hy
   ·exact h1
   ·exact slt_sw.trans _ _ _ h1 (ih2.1 y hy)
theorem del_cut {id : Str} : ∀ {o : List Feat} {j : Nat} {x : Feat}, (o.map (·.id)).Nodup → o[j]? = some x → x.id = id → o.take j ++ o.drop (j + 1) = mCutF o id
 | [], j, x, _, h, _ => by simp at h
 | y :: o, 0, x, hn, h, e => by
  simp only [List.getElem?_cons_zero, Option.some.injEq] at h
  subst h
  rw [mCutF_cons, if_pos e]
  simp only [List.map_cons, List.nodup_cons] at hn
  have : mCutF o id = o := List.filter_eq_self.2 fun z hz => by
   have : ¬ z.id = id := fun e2 => hn.1 (List.mem_map.2 ⟨z, hz, by rw [e2, e]⟩)
   simp [this]
  simp [this]
 | y :: o, j + 1, x, hn, h, e => by
  simp only [List.getElem?_cons_succ] at h
  simp only [List.map_cons, List.nodup_cons] at hn
  have hne : y.id ≠ id := fun e2 => hn.1 (List.mem_map.2 ⟨x, List.mem_of_getElem? h, by rw [e2, e]⟩)
  rw [mCutF_cons, if_neg hne, ← del_cut hn.2 h e]
  simp
theorem cut_none {o : List Feat} {id : Str} (h : o.find? (fun f : Feat => decide (f.id = id)) = none) : mCutF o id = o := List.filter_eq_self.2 fun z hz => by
 have := List.find?_eq_none.1 h z hz
 simpa using this
def mStep (v : List Feat) (c : Change) : List Feat := if c.has = true then mPut c.now v else mCutF v c.id
def mFits (s : List Feat) (c : Change) : Bool := decide (mSide s c.id = (c.was, c.had))
def mDo (s : List Feat) (d : List Change) : List Feat × Bool := if (mSheet s && (mDiff d && (d.all (mFits s) && mSheet (d.foldl mStep s)))) = true then (d.foldl mStep s, true) else ([], false)
theorem cut_w {v : List Feat} {id : Str} : wL wFeat (mCutF v id) ≤ wL wFeat v := wL_sub List.filter_sublist
theorem wL_cons {α : Type} {w : α → Nat} {x : α} {l : List α} : wL w (x :: l) = wL w l + (1 + w x) := by unfold wL; simp only [sumW, List.length_cons]; omega
theorem mPut_w {f : Feat} : ∀ (l : List Feat), wL wFeat (mPut f l) ≤ wL wFeat l + (1 + wFeat f)
 | [] => by
  unfold mPut
  rw [wL_cons]
  exact Nat.le_refl _
 | x :: l => by
  have h1 := mPut_w (f := f) l
  have h2 := cut_w (v := x :: l) (id := f.id)
  unfold mPut
  split
  ·rw [wL_cons, wL_cons]; omega
  ·rw [wL_cons]; omega
theorem step_w {v : List Feat} {c : Change} : wL wFeat (mStep v c) ≤ wL wFeat v + (1 + wChange c) := by
 have h1 := mPut_w (f := c.now) v
 have h2 := cut_w (v := v) (id := c.id)
 unfold mStep wChange
 split <;> omega
theorem fold_w : ∀ {l : List Change} {v : List Feat}, wL wFeat (l.foldl mStep v) ≤ wL wFeat v + wL wChange l
 | [], v => by simp
 | c :: l, v => by
  have h := fold_w (l := l) (v := mStep v c)
  have h2 := step_w (v := v) (c := c)
  rw [wL_cons]
  simp only [List.foldl_cons]
  omega
theorem side_w {s : List Feat} {id : Str} : wFeat (mSide s id).1 ≤ wL wFeat s := by
 unfold mSide
 split
 ·rename_i f hf
  have := sum_mem (w := wFeat) (List.mem_of_find?_eq_some hf)
  unfold wL
  simp only
  omega
 ·exact Nat.zero_le _
theorem s_l4Fits {s : List Feat} {c : Change} (h : wL wFeat s ≤ 1048576) : gf_ez9 s c = some (mFits s c) := by
 have hw := side_w (s := s) (id := c.id)
 unfold gf_ez9 mFits
 rw [s_l4Side h, Option.bind_some, s_FeatSame (by omega)]
 generalize mSide s c.id = p
 obtain ⟨f, b⟩ := p
 by_cases h1 : b = c.had <;> by_cases h2 : f = c.was <;> simp [h1, h2]
theorem s_Do1 {s : List Feat} (hs : wL wFeat s ≤ 1048576) : ∀ (l : List Change) (k : Nat) (v : List Feat), wL wFeat v + wL wChange l ≤ 1048000 → gl_ed9_1 s l k v = some (if l.all (mFits s) = true then .inr (l.foldl mStep v) else .inl ([], false))
 | [], k, v, _ => rfl
 | c :: l, k, v, h => by
  rw [wL_cons] at h
  have hst := step_w (v := v) (c := c)
  have hl : v.length ≤ 1048000 := by unfold wL at h; omega
  have ih := s_Do1 hs l (k + 1) (mStep v c) (by omega)
  simp only [gl_ed9_1, s_l4Fits hs, Option.bind_some, List.all_cons, List.foldl_cons]
  by_cases e : mFits s c = true
  ·simp only [e, Bool.not_true, Bool.false_eq_true, if_false, Bool.true_and]
   unfold mStep at ih ⊢
   by_cases e2 : c.has = true
   ·simp only [e2, if_true] at ih ⊢
    rw [s_l3Put (by omega), Option.bind_some, ih]
   ·simp only [e2, Bool.false_eq_true, if_false] at ih ⊢
    rw [s_l3Cut (by omega), Option.bind_some, ih]
  ·simp [e]
theorem one_now {c : Change} (h : mOne c = true) (h2 : c.has = true) : c.now.id = c.id := by
 unfold mOne mSideOk at h
 simp only [Bool.and_eq_true, h2, if_true, decide_eq_true_eq] at h
 exact h.2.2.1.2
theorem step_pw {v : List Feat} {c : Change} (h : Pw v) : Pw (mStep v c) := by
 unfold mStep
 split
 ·exact mPut_pw h
 ·exact List.Pairwise.filter _ h
theorem perm_w {α : Type} {w : α → Nat} {a b : List α} (h : a.Perm b) : wL w a = wL w b := by
 induction h with
 | nil => rfl
 | cons x h ih => rw [wL_cons, wL_cons, ih]
 | swap x y l => simp only [wL_cons]; omega
 | trans h1 h2 ih1 ih2 => rw [ih1, ih2]
theorem step_perm {v o : List Feat} {c : Change} (ho : o.Perm v) (hc : mOne c = true) : (if c.has = true then mCutF o c.id ++ [c.now] else mCutF o c.id).Perm (mStep v c) := by
 unfold mStep
 have hp : (mCutF o c.id).Perm (mCutF v c.id) := ho.filter _
 cases e : c.has
 ·exact hp
 ·simp only [if_true]
  have h1 := mPut_perm (f := c.now) (l := v)
  rw [one_now hc e] at h1
  refine List.Perm.trans ?_ h1.symm
  exact (List.perm_append_comm).trans (List.Perm.cons _ hp)
theorem i_Do1 {s : List Feat} (hs : wL wFeat s ≤ 1048576) : ∀ (l : List Change) (k : Nat) (v o : List Feat), o.Perm v → Pw v → (∀ c ∈ l, mOne c = true) → wL wFeat v + wL wChange l ≤ 1048000 → ∃ o', gl_ac9 s l k o = some (if l.all (mFits s) = true then .inr o' else .inl ([], false)) ∧ o'.Perm (l.foldl mStep v) ∧ Pw (l.foldl mStep v)
 | [], k, v, o, ho, hp, _, _ => ⟨o, rfl, ho, hp⟩
 | c :: l, k, v, o, ho, hp, hc, h => by
  rw [wL_cons] at h
  have hst := step_w (v := v) (c := c)
  have how := perm_w (w := wFeat) ho
  have hol : o.length ≤ 1048000 := by unfold wL at h how; have := ho.length_eq; omega
  have hnd : (o.map (·.id)).Nodup := ((ho.map (·.id)).nodup_iff).2 (pw_nodup hp)
  have hsp := step_perm ho (hc c (by simp))
  have hside := side_w (s := s) (id := c.id)
  have hnow : wFeat c.now ≤ 1048576 := by unfold wChange at h; omega
  obtain ⟨o', h1, h2⟩ := i_Do1 hs l (k + 1) (mStep v c) _ hsp (step_pw hp) (fun y hy => hc y (by simp [hy])) (by omega)
  refine ⟨o', ?_, h2⟩
  have hcl : (mCutF o c.id).length ≤ o.length := List.length_filter_le _ _
  have hdel : (gf_ax9 o c.id).bind (fun x205 => if (decide (x205 ≥ 0)) = true then gf_do9 o x205 (IntKind.i64.wrap (x205 + 1)) else some o) = some (mCutF o c.id) := by
   rw [i_featAt (by omega), Option.bind_some]
   rcases fst_find (p := fun f : Feat => decide (f.id = c.id)) o 0 with ⟨g1, g2⟩ | ⟨j, x, g1, g2, g3, g4⟩
   ·rw [g2, if_neg (by simp), cut_none g1]
   ·have hj := get_lt g3
    have hw : IntKind.i64.wrap (((0 + j : Nat) : Int) + 1) = ((j + 1 : Nat) : Int) := by rw [wrap_id (by omega) (by omega)]; omega
    rw [g2, if_pos (by simp), hw, Nat.zero_add]
    unfold gf_do9 slc
    rw [if_pos ⟨by omega, by omega, by omega⟩, Option.bind_some, if_neg (by simp only [beq_iff_eq]; omega)]
    have := del_cut (id := c.id) hnd g3 (by simpa using g4)
    simpa using this
  have hfs : gf_af9 (⟨(mSide s c.id).1.id, ⟨(mSide s c.id).1.shape.kind, (mSide s c.id).1.shape.pts⟩, (mSide s c.id).1.tags⟩ : Feat) c.was = some (decide ((mSide s c.id).1 = c.was)) := i_FeatSame (show wFeat (mSide s c.id).1 ≤ 1048576 by omega)
  have hfit : mFits s c = (decide ((mSide s c.id).2 = c.had) && decide ((mSide s c.id).1 = c.was)) := by
   unfold mFits
   generalize mSide s c.id = p
   obtain ⟨f, b⟩ := p
   by_cases e1 : b = c.had <;> by_cases e2 : f = c.was <;> simp [e1, e2]
  simp only [gl_ac9, i_side hs, Option.bind_some, List.all_cons, hfs, hfit, i_cloneFeat hnow]
  clear hfs hfit hside
  by_cases e1 : (mSide s c.id).2 = c.had
  ·by_cases e2 : (mSide s c.id).1 = c.was
   ·simp only [e1, e2, BEq.rfl, Bool.not_true, Bool.false_eq_true, if_false, decide_true, Bool.true_and]
    rw [i_featAt (by omega), Option.bind_some] at hdel ⊢
    generalize fstFrom (fun f : Feat => decide (f.id = c.id)) o 0 = z at hdel ⊢
    by_cases e3 : decide (z ≥ 0) = true
    ·rw [if_pos e3] at hdel ⊢
     rw [hdel, Option.bind_some]
     by_cases e4 : c.has = true
     ·simp only [e4, if_true] at h1 ⊢
      rw [if_pos (fits_small (by simp; omega))]
      exact h1
     ·simp only [e4, Bool.false_eq_true, if_false] at h1 ⊢
      exact h1
    ·rw [if_neg e3] at hdel ⊢
     have hdel := Option.some.inj hdel
     by_cases e4 : c.has = true
     ·simp only [e4, if_true] at h1 ⊢
      rw [← hdel] at h1
      rw [if_pos (fits_small (by simp; omega))]
      exact h1
     ·simp only [e4, Bool.false_eq_true, if_false] at h1 ⊢
      rw [← hdel] at h1
      exact h1
   ·simp [e1, e2]
  ·simp [e1]
theorem mDiff_one {d : List Change} (h : mDiff d = true) : ∀ c ∈ d, mOne c = true := fun c hc => by
 unfold mDiff at h
 rw [Bool.and_eq_true] at h
 obtain ⟨j, hj⟩ := allF h.1 hc
 rw [Bool.and_eq_true] at hj
 exact hj.1
theorem mFeat_w {f : Feat} (h : mFeat f = true) : wFeat f ≤ 100 := by
 unfold mFeat mShape mTags at h
 simp only [Bool.and_eq_true, decide_eq_true_eq] at h
 obtain ⟨h1, ⟨h2, h3, h4⟩, h5, h6⟩ := h
 have a1 := mWord_size h1
 have a2 : sumW wTag f.tags ≤ 14 * f.tags.length := sum_le2 fun t ht => by
  obtain ⟨j, hj⟩ := allF h5 ht
  simp only [Bool.and_eq_true] at hj
  have b1 := mWord_size hj.1
  have b2 := mWord_size hj.2.1
  unfold wTag
  omega
 have a3 := sum_w0 f.shape.pts
 unfold wFeat wShape wL
 omega
theorem mDiff_w {d : List Change} (h : mDiff d = true) : wL wChange d ≤ 5000 := by
 have key : ∀ (id : Str) (b : Bool) (f : Feat), mSideOk id b f = true → wFeat f ≤ 100 := fun id b f hs => by
  unfold mSideOk at hs
  split at hs
  ·rw [Bool.and_eq_true] at hs
   exact mFeat_w hs.1
  ·rw [of_decide_eq_true hs]
   exact Nat.zero_le _
 have h1 : sumW wChange d ≤ 207 * d.length := sum_le2 fun c hc => by
  have := mDiff_one h c hc
  unfold mOne at this
  simp only [Bool.and_eq_true] at this
  have a1 := mWord_size this.1
  have a2 := key _ _ _ this.2.1
  have a3 := key _ _ _ this.2.2.1
  unfold wChange
  omega
 have h2 : d.length ≤ 16 := by
  unfold mDiff at h
  rw [Bool.and_eq_true, decide_eq_true_eq] at h
  exact h.2
 unfold wL
 omega
theorem s_DiffDo {s : List Feat} {d : List Change} (hs : wL wFeat s ≤ 400000) (hd : wL wChange d ≤ 1048576) : gf_ed9 s d = some (mDo s d) := by
 unfold gf_ed9 mDo
 simp only [s_SheetOk (fs := s) (by omega), s_DiffOk (d := d) (by omega), Option.bind_some]
 cases mSheet s
 ·rfl
 ·cases h2 : mDiff d
  ·rfl
  ·have hd := mDiff_w h2
   have hf := fold_w (l := d) (v := s)
   have hl : d.length ≤ 600000 := by unfold wL at hd; omega
   simp only [fits_small (n := d.length) (by omega), s_Do1 (s := s) (by omega) d 0 s (by omega), if_true, Option.bind_some]
   cases d.all (mFits s)
   ·rfl
   ·simp only [if_true, s_SheetOk (fs := d.foldl mStep s) (by omega), s_l3Copy (fs := d.foldl mStep s) (by omega), Option.bind_some]
    cases mSheet (d.foldl mStep s) <;> rfl
theorem sortF_perm {o v : List Feat} (ho : o.Perm v) (hp : Pw v) (hl : o.length ≤ 1048576) : sortF o = some v := by
 have hn : (o.map (·.id)).Nodup := ((ho.map (·.id)).nodup_iff).2 (pw_nodup hp)
 unfold sortF
 rw [if_pos (by rw [fits_small hl, decide_eq_true hn]; rfl)]
 congr 1
 refine sort_one hn ho.symm (hp.imp fun {a b} h => ?_)
 unfold leF
 cases h2 : slt b.id a.id
 ·rfl
 ·have := slt_sw.trans _ _ _ h h2
  rw [slt_sw.irrefl] at this
  cases this
theorem i_DiffDo {s : List Feat} {d : List Change} (hs : wL wFeat s ≤ 400000) (hd : wL wChange d ≤ 1048576) : gf_ab9 s d = some (mDo s d) := by
 unfold gf_ab9 mDo
 simp only [i_SheetOk (fs := s) (by omega), i_DiffOk (d := d) (by omega), i_cloneSheet (fs := s) (by omega), Option.bind_some]
 cases h1 : mSheet s
 ·rfl
 ·cases h2 : mDiff d
  ·rfl
  ·have hd := mDiff_w h2
   have hf := fold_w (l := d) (v := s)
   have hl : d.length ≤ 600000 := by unfold wL at hd; omega
   obtain ⟨o, g1, g2, g3⟩ := i_Do1 (s := s) (by omega) d 0 s s (List.Perm.refl _) (mSheet_pw h1) (mDiff_one h2) (by omega)
   simp only [fits_small (n := d.length) (by omega), g1, Bool.not_true, Bool.false_eq_true, if_false, if_true, Option.bind_some, Bool.true_and]
   cases d.all (mFits s)
   ·rfl
   ·have hol : o.length ≤ 1048576 := by rw [g2.length_eq]; unfold wL at hf hs hd; omega
    simp only [if_true, gf_ec9, sortF_perm g2 g3 hol, Option.bind_some, i_SheetOk (fs := d.foldl mStep s) (by omega), i_cloneSheet (fs := d.foldl mStep s) (by omega)]
    cases mSheet (d.foldl mStep s) <;> rfl
theorem mSheet_w {s : List Feat} (h : mSheet s = true) : wL wFeat s ≤ 1000 := by
 unfold mSheet at h
 rw [Bool.and_eq_true, decide_eq_true_eq] at h
 have a2 : sumW wFeat s ≤ 100 * s.length := sum_le2 fun t ht => by
  obtain ⟨j, hj⟩ := allF h.1 ht
  rw [Bool.and_eq_true] at hj
  exact mFeat_w hj.1
 unfold wL
 omega
theorem mDo_w {s : List Feat} {d : List Change} : wL wFeat (mDo s d).1 ≤ 1000 := by
 unfold mDo
 split
 ·rename_i h
  simp only [Bool.and_eq_true] at h
  exact mSheet_w h.2.2.2
 ·exact Nat.zero_le _
def pWas (cs : List Commit) (up : List Int) : List Feat := match up with
 | [] => []
 | u :: _ => match cs[u.toNat]? with
  | some c => c.sheet
  | none => []
def pUp (up : List Int) (k : Nat) : Bool := allFrom (fun (x : Int) _ => decide (0 ≤ x) && decide (x < (k : Int))) up 0
def pNew (v : List Commit) (e : Entry) : List Commit := v ++ [⟨e.up, (mDo (pWas v e.up) e.diff).1, e.note⟩]
def pOpen (u : List Int → Nat → Bool) : List Entry → List Commit → Option (List Commit)
 | [], v => some v
 | e :: l, v => if (u e.up v.length && (mDo (pWas v e.up) e.diff).2) = true then pOpen u l (pNew v e) else none
def mOpen (ps : List Entry) (hs : List Head) : Repo × Bool := if ps.length ≤ 14 then (match pOpen pUp ps [] with
 | some cs => if mRepo ⟨cs, hs⟩ = true then (⟨cs, hs⟩, true) else (rNil, false)
 | none => (rNil, false)) else (rNil, false)
def okV (v : List Commit) : Prop := ∀ c ∈ v, wL wFeat c.sheet ≤ 1000
theorem okV_new {v : List Commit} {e : Entry} (h : okV v) : okV (pNew v e) := fun c hc => by
 rcases List.mem_append.1 hc with hc | hc
 ·exact h c hc
 ·rw [List.mem_singleton.1 hc]
  exact mDo_w
theorem pNew_len {v : List Commit} {e : Entry} : (pNew v e).length = v.length + 1 := by unfold pNew; simp
theorem pWas_w {v : List Commit} {up : List Int} (h : okV v) : wL wFeat (pWas v up) ≤ 1000 := by
 unfold pWas
 split
 ·exact Nat.zero_le _
 ·split
  ·rename_i c hc
   exact h c (List.mem_of_getElem? hc)
  ·exact Nat.zero_le _
theorem pNew_w {v : List Commit} {e : Entry} : wL wCommit (pNew v e) ≤ wL wCommit v + (1 + wEntry e) + 1000 := by
 have h1 := mDo_w (s := pWas v e.up) (d := e.diff)
 unfold pNew
 rw [wL_append, show ∀ c : Commit, wL wCommit [c] = 1 + wCommit c from fun c => rfl]
 unfold wCommit wEntry
 simp only
 omega
theorem pOpen_w {u : List Int → Nat → Bool} : ∀ {l : List Entry} {v cs : List Commit}, pOpen u l v = some cs → okV v → wL wCommit cs ≤ wL wCommit v + wL wEntry l + 1000 * l.length ∧ okV cs ∧ cs.length = v.length + l.length ∧ v <+: cs
 | [], v, cs, h, ho => by
  cases h
  exact ⟨by unfold wL; simp, ho, by simp, List.prefix_refl _⟩
 | e :: l, v, cs, h, ho => by
  simp only [pOpen] at h
  split at h
  ·obtain ⟨h1, h2, h3, h4⟩ := pOpen_w h (okV_new ho)
   have h5 := pNew_w (v := v) (e := e)
   refine ⟨by rw [wL_cons, List.length_cons]; omega, h2, by rw [h3, pNew_len, List.length_cons]; omega, List.IsPrefix.trans ⟨_, rfl⟩ h4⟩
  ·cases h
theorem i_open5 {k : Nat} (hk : k ≤ 1000) : ∀ (l : List Int) (j : Nat), gl_ag9_5 k l j = some (if pUp l k = true then .inr () else .inl (rNil, false))
 | [], j => rfl
 | x :: l, j => by
  have hw : IntKind.i64.wrap ((k : Int) - 1) = (k : Int) - 1 := wrap_id (by omega) (by omega)
  have key : ∀ (l : List Int) (a b : Nat), allFrom (fun (x : Int) _ => decide (0 ≤ x) && decide (x < (k : Int))) l a = allFrom (fun (x : Int) _ => decide (0 ≤ x) && decide (x < (k : Int))) l b := by
   intro l
   induction l with
   | nil => intro a b; rfl
   | cons y l ih => intro a b; simp only [allFrom]; rw [ih (a + 1) (b + 1)]
  have e : pUp (x :: l) k = ((decide (0 ≤ x) && decide (x < (k : Int))) && pUp l k) := by
   unfold pUp
   simp only [allFrom]
   rw [key l (0 + 1) 0]
  have e2 : decide (x ≤ (k : Int) - 1) = decide (x < (k : Int)) := decide_eq_decide.2 (by omega)
  rw [e]
  simp only [gl_ag9_5, i_within, hw, Option.bind_some, e2]
  rw [i_open5 hk l (j + 1)]
  cases (decide (0 ≤ x) && decide (x < (k : Int)))
  ·rfl
  ·simp
theorem pUp_ix {v : List Commit} {x : Int} {l : List Int} (h : pUp (x :: l) v.length = true) : ∃ c, idx v x = some c ∧ v[x.toNat]? = some c := by
 unfold pUp at h
 simp only [allFrom, Bool.and_eq_true, decide_eq_true_eq] at h
 obtain ⟨c, hc⟩ := getI (xs := v) (i := x.toNat) (by omega)
 refine ⟨c, ?_, hc⟩
 unfold idx
 rw [if_pos h.1.1, hc]
theorem i_open4 : ∀ (l : List Entry) (v : List Commit), v.length + l.length ≤ 1000 → okV v → wL wEntry l ≤ 1048576 → gl_ag9_4 l v.length v = some (match pOpen pUp l v with | some cs => .inr cs | none => .inl (rNil, false))
 | [], v, _, _, _ => rfl
 | e :: l, v, hl, ho, hw => by
  simp only [List.length_cons] at hl
  rw [wL_cons] at hw
  have e0 : wEntry e = wL w0 e.up + (e.note.size + (wL wChange e.diff + 0)) := rfl
  have e1 : wL w0 e.up = e.up.length + sumW w0 e.up := rfl
  have hul : e.up.length ≤ 1048576 := by omega
  have hwas := pWas_w (up := e.up) ho
  have ih := i_open4 l (pNew v e) (by rw [pNew_len]; omega) (okV_new ho) (by omega)
  rw [pNew_len] at ih
  have hq : pUp e.up v.length = true → (if (decide ((e.up.length : Int) > 0)) = true then ((idx e.up 0).bind fun x220 => (idx v x220).bind fun x222 => some x222.sheet) else (some []) : Option (List Feat)) = some (pWas v e.up) := by
   intro hp
   match hu : e.up with
   | [] => rfl
   | x :: xs =>
    rw [hu] at hp
    obtain ⟨c, h1, h2⟩ := pUp_ix hp
    rw [if_pos (by simp), show idx (x :: xs) 0 = some x from rfl, Option.bind_some, h1, Option.bind_some]
    unfold pWas
    simp only [h2]
  simp only [gl_ag9_4, i_open5 (k := v.length) (by omega), fits_small (n := e.up.length) (by omega), if_true, Option.bind_some, pOpen]
  by_cases hp : pUp e.up v.length = true
  ·simp only [hp, if_true, hq hp, Option.bind_some, i_DiffDo (s := pWas v e.up) (d := e.diff) (by omega) (by omega), Bool.true_and]
   by_cases hd : (mDo (pWas v e.up) e.diff).2 = true
   ·simp only [hd, Bool.not_true, Bool.false_eq_true, if_false, if_true]
    rw [if_pos (fits_small (by simp; omega)), if_pos (fits_small (by simp; omega))]
    exact ih
   ·simp [hd, rNil]
  ·simp [hp, rNil]
theorem s_open1 {hs : List Head} : ∀ (l : List Entry) (v : List Commit), v.length + l.length ≤ 1000 → okV v → wL wEntry l ≤ 1048576 → gl_eh9_1 l v.length v hs = some (match pOpen mUp l v with | some cs => .inr (cs, hs) | none => .inl (rNil, false))
 | [], v, _, _, _ => rfl
 | e :: l, v, hl, ho, hw => by
  simp only [List.length_cons] at hl
  rw [wL_cons] at hw
  have e0 : wEntry e = wL w0 e.up + (e.note.size + (wL wChange e.diff + 0)) := rfl
  have e1 : wL w0 e.up = e.up.length + sumW w0 e.up := rfl
  have hul : e.up.length ≤ 1048576 := by omega
  have hwas := pWas_w (up := e.up) ho
  have ih := s_open1 (hs := hs) l (pNew v e) (by rw [pNew_len]; omega) (okV_new ho) (by omega)
  rw [pNew_len] at ih
  simp only [gl_eh9_1, s_l7Up (up := e.up) (k := v.length) (by omega), Option.bind_some, pOpen]
  by_cases hp : mUp e.up v.length = true
  ·have hp2 : pUp e.up v.length = true := by
    unfold mUp at hp
    rw [Bool.and_eq_true] at hp
    exact hp.1
   have hge : (v ++ [(⟨[] ++ e.up, [], e.note⟩ : Commit)])[v.length]? = some ⟨e.up, [], e.note⟩ := by simp
   have hwas2 : gf_fi9 ⟨v ++ [(⟨[] ++ e.up, [], e.note⟩ : Commit)], hs⟩ (v.length : Int) = some (pWas v e.up, ⟨v ++ [(⟨[] ++ e.up, [], e.note⟩ : Commit)], hs⟩) := by
    unfold gf_fi9
    simp only [idx_nat, hge, Option.bind_some]
    match hu : e.up with
    | [] => rfl
    | x :: xs =>
     rw [hu] at hp2
     obtain ⟨c, h1, h2⟩ := pUp_ix hp2
     have h0 : 0 ≤ x := by
      unfold pUp at hp2
      simp only [allFrom, Bool.and_eq_true, decide_eq_true_eq] at hp2
      exact hp2.1.1
     have h3 : idx (v ++ [(⟨[] ++ x :: xs, [], e.note⟩ : Commit)]) x = some c := by
      unfold idx
      rw [if_pos h0, List.getElem?_append_left (get_lt h2), h2]
     rw [if_neg (by simp; omega), show idx (x :: xs) 0 = some x from rfl, Option.bind_some, h3, Option.bind_some]
     unfold pWas
     simp only [h2]
   have hset : ∀ c : Commit, List.set (v ++ [(⟨[] ++ e.up, [], e.note⟩ : Commit)]) (v.length : Int).toNat c = v ++ [c] := fun c => by
    rw [Int.toNat_natCast, List.set_append_right _ _ (Nat.le_refl _), Nat.sub_self]
    rfl
   simp only [hp, Bool.not_true, Bool.false_eq_true, if_false, fits_small (n := ([] ++ e.up).length) (by simp; omega), if_true, Bool.true_and]
   rw [if_pos (fits_small (by simp; omega)), hwas2]
   simp only [Option.bind_some, s_DiffDo (s := pWas v e.up) (d := e.diff) (by omega) (by omega)]
   by_cases hd : (mDo (pWas v e.up) e.diff).2 = true
   ·simp only [hd, Bool.not_true, Bool.false_eq_true, if_false, if_true, idx_nat, hge, Option.bind_some, hset]
    exact ih
   ·simp [hd, rNil]
  ·simp [hp, rNil]
theorem mUp_p {up : List Int} {k : Nat} (h : mUp up k = true) : pUp up k = true := by
 unfold mUp at h
 rw [Bool.and_eq_true] at h
 exact h.1
theorem open_m_p : ∀ {l : List Entry} {v cs : List Commit}, pOpen mUp l v = some cs → pOpen pUp l v = some cs
 | [], v, cs, h => h
 | e :: l, v, cs, h => by
  simp only [pOpen] at h ⊢
  split at h
  ·rename_i h1
   rw [Bool.and_eq_true] at h1
   rw [if_pos (by rw [mUp_p h1.1, h1.2]; rfl)]
   exact open_m_p h
  ·cases h
theorem open_p_m : ∀ {l : List Entry} {v cs : List Commit}, pOpen pUp l v = some cs → okV v → (∀ j c, cs[j]? = some c → mUp c.up j = true) → pOpen mUp l v = some cs
 | [], v, cs, h, _, _ => h
 | e :: l, v, cs, h, ho, hc => by
  simp only [pOpen] at h ⊢
  split at h
  ·rename_i h1
   rw [Bool.and_eq_true] at h1
   obtain ⟨t, ht⟩ := (pOpen_w h (okV_new ho)).2.2.2
   have h2 := hc v.length ⟨e.up, (mDo (pWas v e.up) e.diff).1, e.note⟩ (by rw [← ht]; unfold pNew; simp)
   rw [if_pos (by rw [h2, h1.2]; rfl)]
   exact open_p_m h (okV_new ho) hc
  ·cases h
theorem mRepo_up {cs : List Commit} {hs : List Head} (h : mRepo ⟨cs, hs⟩ = true) : ∀ j c, cs[j]? = some c → mUp c.up j = true := by
 intro j c hj
 unfold mRepo mCommits at h
 simp only [Bool.and_eq_true] at h
 have := allFrom_get h.2.2.2.2.1 j c hj
 simp only [Nat.zero_add, Bool.and_eq_true] at this
 exact this.1
theorem okV_nil : okV [] := fun c hc => by cases hc
theorem i_PackOpen {ps : List Entry} {hs : List Head} (hp : wL wEntry ps ≤ 1048576) (hh : wL wHead hs ≤ 1048576) : gf_ag9 ps hs = some (mOpen ps hs) := by
 have hhl : hs.length ≤ 1048576 := by unfold wL at hh; omega
 unfold gf_ag9 mOpen
 rw [if_pos (fits_small (by simp; omega))]
 by_cases hl : ps.length ≤ 14
 ·have hn : ¬ ((ps.length : Int) > 14) := by omega
  have h4 := i_open4 ps [] (by simp; omega) okV_nil hp
  rw [show ([] : List Commit).length = 0 from rfl] at h4
  rw [if_neg (by simpa using hn), if_pos (fits_small (by omega)), if_pos hl, h4]
  cases hq : pOpen pUp ps [] with
  | none => rfl
  | some cs =>
   obtain ⟨w1, w2, w3, w4⟩ := pOpen_w hq okV_nil
   have w5 : wL wCommit ([] : List Commit) = 0 := rfl
   have hwr : wRepo ⟨cs, hs⟩ ≤ 3145728 := by unfold wRepo; simp only; omega
   simp only [Option.bind_some, List.nil_append, i_RepoOkD hwr, i_cloneRepoD hwr]
   cases mRepo ⟨cs, hs⟩ <;> rfl
 ·have hn : ((ps.length : Int) > 14) := by omega
  rw [if_pos (by simpa using hn), if_neg hl]
  rfl
theorem s_PackOpen {ps : List Entry} {hs : List Head} (hp : wL wEntry ps ≤ 1048576) (hh : wL wHead hs ≤ 1048576) : gf_eh9 ps hs = some (mOpen ps hs) := by
 have hhl : hs.length ≤ 1048576 := by unfold wL at hh; omega
 unfold gf_eh9 mOpen
 rw [if_pos (fits_small (by simp; omega))]
 by_cases hl : ps.length ≤ 14
 ·have hn : ¬ ((ps.length : Int) > 14) := by omega
  have h4 := s_open1 (hs := hs) ps [] (by simp; omega) okV_nil hp
  rw [show ([] : List Commit).length = 0 from rfl] at h4
  rw [if_neg (by simpa using hn), if_pos (fits_small (by omega)), if_pos hl, List.nil_append, h4]
  cases hq : pOpen mUp ps [] with
  | none =>
   simp only [Option.bind_some]
   cases hq2 : pOpen pUp ps [] with
   | none => rfl
   | some cs =>
    simp only
    by_cases hr : mRepo ⟨cs, hs⟩ = true
    ·have := open_p_m hq2 okV_nil (mRepo_up hr)
     rw [hq] at this
     cases this
    ·rw [if_neg hr]
  | some cs =>
   rw [open_m_p hq]
   obtain ⟨w1, w2, w3, w4⟩ := pOpen_w hq okV_nil
   have w5 : wL wCommit ([] : List Commit) = 0 := rfl
   have hwr : wRepo ⟨cs, hs⟩ ≤ 3145728 := by unfold wRepo; simp only; omega
   simp only [Option.bind_some, s_RepoOkD hwr]
   cases mRepo ⟨cs, hs⟩ <;> rfl
 ·have hn : ((ps.length : Int) > 14) := by omega
  rw [if_pos (by simpa using hn), if_neg hl]
  rfl
def cChange (c : Change) : Nat := 4 + (sumW c2 c.was.shape.pts + (sumW c2 c.was.tags + (3 + (sumW c2 c.now.shape.pts + sumW c2 c.now.tags))))
def cEntry (e : Entry) : Nat := sumW c1 e.up + (1 + sumW cChange e.diff)
theorem mkn_ChangeS {x : List Change} {k : Int} (hw : wL wChange x ≤ 3145728) (hk : 0 < k) (hb : k + sumW cChange x ≤ kM) : ∃ y, gf_ce9 x k = some (k + sumW cChange x, y) := by
 obtain ⟨y, h, _, _⟩ := mk_list (gf := gf_ce9) (hl := fun _ _ _ _ => True) (c := cChange) (w := wChange) (fun _ _ => rfl) (fun n k xs => by simp only [gl_ce9_1, ge_dec]; rfl) (fun x k hwx hk hb => by
  unfold cChange at hb ⊢
  unfold wChange wFeat wShape at hwx
  obtain ⟨t1, h1⟩ := markText_ok (k := k) (by omega)
  obtain ⟨t2, h2⟩ := markText_ok (k := k + 1 + 1) (by omega)
  obtain ⟨p, h3⟩ := mkn_PtS (x := x.was.shape.pts) (k := k + 1 + 1 + 1 + 1) (by omega) (by omega) (by omega)
  obtain ⟨q, h4⟩ := mkn_TagS (x := x.was.tags) (k := k + 1 + 1 + 1 + 1 + sumW c2 x.was.shape.pts) (by omega) (by omega) (by omega)
  have e : k + (((4 + (sumW c2 x.was.shape.pts + (sumW c2 x.was.tags + (3 + (sumW c2 x.now.shape.pts + sumW c2 x.now.tags)))) : Nat)) : Int) = k + 1 + 1 + 1 + 1 + sumW c2 x.was.shape.pts + sumW c2 x.was.tags + 1 + 1 + 1 + sumW c2 x.now.shape.pts + sumW c2 x.now.tags := by omega
  have hb1 : k + 1 + 1 + 1 + 1 + sumW c2 x.was.shape.pts + sumW c2 x.was.tags + 1 + 1 + 1 + sumW c2 x.now.shape.pts + sumW c2 x.now.tags ≤ kM := by omega
  have hp0 : 0 < k + 1 + 1 + 1 + 1 + (sumW c2 x.was.shape.pts : Int) := by omega
  have hK0 : 0 < k + 1 + 1 + 1 + 1 + (sumW c2 x.was.shape.pts : Int) + sumW c2 x.was.tags := by omega
  have hk4 : k + 1 + 1 + 1 + 1 ≤ kM := by omega
  rw [e]
  generalize k + 1 + 1 + 1 + 1 + (sumW c2 x.was.shape.pts : Int) + sumW c2 x.was.tags = K at *
  obtain ⟨t3, h5⟩ := markText_ok (k := K + 1) (by omega)
  obtain ⟨p2, h6⟩ := mkn_PtS (x := x.now.shape.pts) (k := K + 1 + 1 + 1) (by omega) (by omega) (by omega)
  obtain ⟨q2, h7⟩ := mkn_TagS (x := x.now.tags) (k := K + 1 + 1 + 1 + sumW c2 x.now.shape.pts) (by omega) (by omega) (by omega)
  have m1 := mw hk (by omega)
  have m2 := mw (show 0 < k + 1 by omega) (by omega)
  have m3 := mw (show 0 < k + 1 + 1 by omega) (by omega)
  have m4 := mw (show 0 < k + 1 + 1 + 1 by omega) (by omega)
  have m5 := mw hK0 (by omega)
  have m6 := mw (show 0 < K + 1 by omega) (by omega)
  have m7 := mw (show 0 < K + 1 + 1 by omega) (by omega)
  refine ⟨⟨t1, Int.tmod (k + 1) 3 == 0, ⟨t2, ⟨k + 1 + 1 + 1, p⟩, q⟩, Int.tmod K 3 == 0, ⟨t3, ⟨K + 1 + 1, p2⟩, q2⟩⟩, fun n i xs hx hi => ?_, fun l j K' hl => ?_⟩
  ·simp only [gl_ce9_1, lt_dec hx, if_true, idx_nat, hx, h1, h2, h3, h4, h5, h6, h7, Option.bind_some, m1, m2, m3, m4, m5, m6, m7, miw hi, Int.toNat_natCast, set_get hx, List.set_set]
  ·trivial) (fun _ _ => trivial) x k hw hk hb
 exact ⟨y, h⟩
theorem mkn_EntryS {x : List Entry} {k : Int} (hw : wL wEntry x ≤ 3145728) (hk : 0 < k) (hb : k + sumW cEntry x ≤ kM) : ∃ y, gf_cg9 x k = some (k + sumW cEntry x, y) := by
 obtain ⟨y, h, _, _⟩ := mk_list (gf := gf_cg9) (hl := fun _ _ _ _ => True) (c := cEntry) (w := wEntry) (fun _ _ => rfl) (fun n k xs => by simp only [gl_cg9_1, ge_dec]; rfl) (fun x k hwx hk hb => by
  unfold cEntry at hb ⊢
  unfold wEntry at hwx
  obtain ⟨p, h2⟩ := mkn_IntS (x := x.up) (k := k) (by omega) (by omega) (by omega)
  obtain ⟨t1, h1⟩ := markText_ok (k := k + sumW c1 x.up) (by omega)
  obtain ⟨q, h3⟩ := mkn_ChangeS (x := x.diff) (k := k + sumW c1 x.up + 1) (by omega) (by omega) (by omega)
  have e : k + (((sumW c1 x.up + (1 + sumW cChange x.diff) : Nat)) : Int) = k + sumW c1 x.up + 1 + sumW cChange x.diff := by omega
  have m1 := mw (show 0 < k + (sumW c1 x.up : Int) by omega) (by omega)
  rw [e]
  refine ⟨⟨p, t1, q⟩, fun n i xs hx hi => ?_, fun l j K hl => ?_⟩
  ·simp only [gl_cg9_1, lt_dec hx, if_true, idx_nat, hx, h1, h2, h3, Option.bind_some, m1, miw hi, Int.toNat_natCast, set_get hx, List.set_set]
  ·trivial) (fun _ _ => trivial) x k hw hk hb
 exact ⟨y, h⟩
theorem cChange_le (c : Change) : cChange c ≤ 7 + 7 * wChange c := by
 have h1 : sumW c2 c.was.shape.pts ≤ 2 * wL w0 c.was.shape.pts := sum_le (a := 2) (fun _ => by unfold c2; omega) _
 have h2 : sumW c2 c.was.tags ≤ 2 * wL wTag c.was.tags := sum_le (a := 2) (fun _ => by unfold c2; omega) _
 have h3 : sumW c2 c.now.shape.pts ≤ 2 * wL w0 c.now.shape.pts := sum_le (a := 2) (fun _ => by unfold c2; omega) _
 have h4 : sumW c2 c.now.tags ≤ 2 * wL wTag c.now.tags := sum_le (a := 2) (fun _ => by unfold c2; omega) _
 unfold cChange wChange wFeat wShape
 omega
theorem cEntry_le (e : Entry) : cEntry e ≤ 7 + 7 * wEntry e := by
 have h1 : sumW c1 e.up ≤ 7 * wL w0 e.up := sum_le (a := 7) (fun _ => by unfold c1; omega) _
 have h2 : sumW cChange e.diff ≤ 7 * wL wChange e.diff := sum_le (a := 7) cChange_le _
 unfold cEntry wEntry
 omega
theorem left2' {n : Int} {w : Nat} (h : ¬ (w : Int) ≤ n) : decide (left n w < 0) = true := by rw [left_neg h]; rfl
theorem left3' {n : Int} {w : Nat} (h : (w : Int) ≤ n) : left n w = n - w ∧ decide (left n w < 0) = false := by rw [left_pos h]; exact ⟨rfl, by simp; omega⟩
theorem mOpen_w {ps : List Entry} {hs : List Head} (hp : wL wEntry ps + wL wHead hs ≤ 1048576) : wRepo (mOpen ps hs).1 ≤ 1070000 := by
 unfold mOpen
 split
 ·split
  ·rename_i cs hq
   split
   ·obtain ⟨w1, _⟩ := pOpen_w hq okV_nil
    have w5 : wL wCommit ([] : List Commit) = 0 := rfl
    unfold wRepo
    simp only
    omega
   ·decide
  ·decide
 ·decide
theorem law_FnExactPackOpen (ps : List Entry) (hs : List Head) (ha : okL okEntry ps) (hb : okL okHead hs) : gf_bf9 ps hs = some true := by
 unfold gf_bf9
 rw [p_szEntryS ps 1048576 ha (by decide) (by decide)]
 simp only [Option.bind_some]
 by_cases hw : (wL wEntry ps : Int) ≤ 1048576
 ·obtain ⟨e3, e4⟩ := left3' hw
  rw [e4, e3, p_szHeadS hs _ hb (by omega) (by omega)]
  rw [if_neg (by decide), Option.bind_some]
  by_cases hw2 : (wL wHead hs : Int) ≤ 1048576 - wL wEntry ps
  ·rw [(left3' hw2).2]
   have h1 : wL wEntry ps + wL wHead hs ≤ 1048576 := by omega
   have hce : sumW cEntry ps ≤ 7 * wL wEntry ps := sum_le (a := 7) cEntry_le ps
   have hch : sumW c2 hs ≤ 2 * wL wHead hs := sum_le (a := 2) (fun _ => by unfold c2; omega) hs
   obtain ⟨x, hx⟩ := mkn_EntryS (x := ps) (k := 1) (by omega) (by decide) (by unfold kM; omega)
   obtain ⟨x2, hx2⟩ := mkn_HeadS (x := hs) (k := 1 + sumW cEntry ps) (by omega) (by omega) (by unfold kM; omega)
   have hsp := s_PackOpen (ps := ps) (hs := hs) (by omega) (by omega)
   have hi := i_PackOpen (ps := ps) (hs := hs) (by omega) (by omega)
   have hb2 := mOpen_w h1
   generalize mOpen ps hs = r at hsp hi hb2
   obtain ⟨r, c⟩ := r
   simp only at hb2
   have hcr := cRepo_le r
   obtain ⟨y, hy1, hy2⟩ := mkh_Repo (x := r) (k := 1) (by omega) (by decide) (by unfold kM; omega)
   have e1 : ¬ ((1 : Int) + sumW cEntry ps + sumW c2 hs < 0) := by omega
   have e2 : ¬ ((1 : Int) + cRepo r < 0) := by omega
   simp [p_toEntryS ps (by omega), p_toHeadS hs (by omega), hsp, hi, p_eqEntryS ps (by omega), p_eqHeadS hs (by omega), p_eqRepo r (by omega), hx, hx2, hy1, hy2, e1, e2]
  ·rw [left2' hw2]
   rfl
 ·rw [left2' hw]
  rfl
end Go.Proofs.AM
