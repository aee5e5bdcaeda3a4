/- Lemmas of the proof (RAP), on an abstract machine. Conditions: none. -/
import Derived.Test.YtodmjmkakgamlaaDoorRAD
import Derived.Test.YtodmjmkakgamlaaDoorM2
import Derived.Test.YtodmjmkakgamlaaDoorHT
import Derived.Lib.ItoaLen
set_option linter.unusedVariables false
set_option linter.unusedSimpArgs false
set_option maxRecDepth 10000
namespace Go.Proofs.AM
theorem p_szPtS : Sz gf_bi9 (okL okPt) (wL w0) := sz_flat fun _ _ => rfl
theorem p_szTag : Sz gf_bk9 okTag wTag := by
 intro x n hx h0 hn
 unfold gf_bk9
 refine sz_str hx.1 h0 hn fun m0 e0 a0 b0 => ?_
 rw [e0]
 refine sz_str hx.2 a0 b0 fun m1 e1 a1 b1 => ?_
 rw [e1]
 exact sz_end a1
theorem p_szShape : Sz gf_bj9 okShape wShape := by
 intro x n hx h0 hn
 unfold gf_bj9
 refine sz_sub p_szPtS hx.2 h0 hn fun m0 a0 b0 => ?_
 exact sz_end a0
theorem p_szTagS : Sz gf_bl9 (okL okTag) (wL wTag) := sz_list p_szTag (gl := gl_bl9_1) (fun _ _ => rfl) (fun _ _ _ _ => rfl) (fun _ _ => rfl)
theorem p_szFeat : Sz gf_bg9 okFeat wFeat := by
 intro x n hx h0 hn
 unfold gf_bg9
 refine sz_str hx.1 h0 hn fun m0 e0 a0 b0 => ?_
 rw [e0]
 refine sz_sub p_szShape hx.2.1 a0 b0 fun m1 a1 b1 => ?_
 refine sz_sub p_szTagS hx.2.2 a1 b1 fun m2 a2 b2 => ?_
 exact sz_end a2
theorem p_szIntS : Sz gf_bh9 (okL rI) (wL w0) := sz_flat fun _ _ => rfl
theorem p_toPt : Cp gf_bs9 w0 := fun _ _ => rfl
theorem p_toPtS : Cp gf_bt9 (wL w0) := cp_list p_toPt (gl := gl_bt9_1) (fun _ _ => rfl) (fun _ _ _ _ => rfl) (fun _ => rfl)
theorem p_toTag : Cp gf_bv9 wTag := fun _ _ => rfl
theorem p_toShape : Cp gf_bu9 wShape := by
 intro x h
 unfold wShape at h
 have h0 := p_toPtS x.pts (by omega)
 simp only [gf_bu9, h0, Option.bind_some]
theorem p_toTagS : Cp gf_bw9 (wL wTag) := cp_list p_toTag (gl := gl_bw9_1) (fun _ _ => rfl) (fun _ _ _ _ => rfl) (fun _ => rfl)
theorem p_toFeat : Cp gf_bq9 wFeat := by
 intro x h
 unfold wFeat at h
 have h1 := p_toShape x.shape (by omega)
 have h2 := p_toTagS x.tags (by omega)
 simp only [gf_bq9, h1, h2, Option.bind_some]
theorem p_toIntS : Cp gf_br9 (wL w0) := cp_list (cp_id (w := w0)) (gl := gl_br9_1) (fun _ _ => rfl) (fun _ _ _ _ => rfl) (fun _ => rfl)
theorem p_eqPt : Eqs gf_ax9 w0 := by
 intro x h
 simp [gf_ax9]
theorem p_eqPtS : Eqs gf_ay9 (wL w0) := eq_list p_eqPt (gl := gl_ay9_1) (fun _ _ => rfl) (fun _ _ _ _ => rfl) (fun _ _ => rfl)
theorem p_eqTag : Eqs gf_ba9 wTag := by
 intro x h
 simp [gf_ba9, seq_self]
theorem p_eqShape : Eqs gf_az9 wShape := by
 intro x h
 unfold wShape at h
 have h0 := p_eqPtS x.pts (by omega)
 simp [gf_az9, h0]
theorem p_eqTagS : Eqs gf_bb9 (wL wTag) := eq_list p_eqTag (gl := gl_bb9_1) (fun _ _ => rfl) (fun _ _ _ _ => rfl) (fun _ _ => rfl)
theorem p_eqFeat : Eqs gf_av9 wFeat := by
 intro x h
 unfold wFeat at h
 have h1 := p_eqShape x.shape (by omega)
 have h2 := p_eqTagS x.tags (by omega)
 simp [gf_av9, seq_self, h1, h2]
theorem p_eqIntS : Eqs gf_aw9 (wL w0) := eq_list (eq_id (w := w0)) (gl := gl_aw9_1) (fun _ _ => rfl) (fun _ _ _ _ => rfl) (fun _ _ => rfl)
theorem p_szChange : Sz gf_bc9 okChange wChange := by
 intro x n hx h0 hn
 unfold gf_bc9
 refine sz_str hx.1 h0 hn fun m0 e0 a0 b0 => ?_
 rw [e0]
 refine sz_sub p_szFeat hx.2.1 a0 b0 fun m1 a1 b1 => ?_
 refine sz_sub p_szFeat hx.2.2 a1 b1 fun m2 a2 b2 => ?_
 exact sz_end a2
theorem p_szChangeS : Sz gf_bd9 (okL okChange) (wL wChange) := sz_list p_szChange (gl := gl_bd9_1) (fun _ _ => rfl) (fun _ _ _ _ => rfl) (fun _ _ => rfl)
theorem p_szEntry : Sz gf_be9 okEntry wEntry := by
 intro x n hx h0 hn
 unfold gf_be9
 refine sz_sub p_szIntS hx.1 h0 hn fun m0 a0 b0 => ?_
 refine sz_str hx.2.1 a0 b0 fun m1 e1 a1 b1 => ?_
 rw [e1]
 refine sz_sub p_szChangeS hx.2.2 a1 b1 fun m2 a2 b2 => ?_
 exact sz_end a2
theorem p_szEntryS : Sz gf_bf9 (okL okEntry) (wL wEntry) := sz_list p_szEntry (gl := gl_bf9_1) (fun _ _ => rfl) (fun _ _ _ _ => rfl) (fun _ _ => rfl)
theorem p_toChange : Cp gf_bm9 wChange := by
 intro x h
 unfold wChange at h
 have h1 := p_toFeat x.was (by omega)
 have h2 := p_toFeat x.now (by omega)
 simp only [gf_bm9, h1, h2, Option.bind_some]
theorem p_toChangeS : Cp gf_bn9 (wL wChange) := cp_list p_toChange (gl := gl_bn9_1) (fun _ _ => rfl) (fun _ _ _ _ => rfl) (fun _ => rfl)
theorem p_toEntry : Cp gf_bo9 wEntry := by
 intro x h
 unfold wEntry at h
 have h0 := p_toIntS x.up (by omega)
 have h2 := p_toChangeS x.diff (by omega)
 simp only [gf_bo9, h0, h2, Option.bind_some]
theorem p_toEntryS : Cp gf_bp9 (wL wEntry) := cp_list p_toEntry (gl := gl_bp9_1) (fun _ _ => rfl) (fun _ _ _ _ => rfl) (fun _ => rfl)
theorem p_eqChange : Eqs gf_ar9 wChange := by
 intro x h
 unfold wChange at h
 have h1 := p_eqFeat x.was (by omega)
 have h2 := p_eqFeat x.now (by omega)
 simp [gf_ar9, seq_self, h1, h2]
theorem p_eqChangeS : Eqs gf_as9 (wL wChange) := eq_list p_eqChange (gl := gl_as9_1) (fun _ _ => rfl) (fun _ _ _ _ => rfl) (fun _ _ => rfl)
theorem p_eqEntry : Eqs gf_at9 wEntry := by
 intro x h
 unfold wEntry at h
 have h0 := p_eqIntS x.up (by omega)
 have h2 := p_eqChangeS x.diff (by omega)
 simp [gf_at9, seq_self, h0, h2]
theorem p_eqEntryS : Eqs gf_au9 (wL wEntry) := eq_list p_eqEntry (gl := gl_au9_1) (fun _ _ => rfl) (fun _ _ _ _ => rfl) (fun _ _ => rfl)
theorem s_WordOk {s : Str} (h : s.size ≤ 1048576) : gf_ci9 s = some (mWord s) := by
 unfold gf_ci9 mWord
 rw [if_pos (fits_small h), loopB (gl := gl_ci9_1) (p := fun (b : UInt8) _ => decide (97 ≤ b.toNat) && decide (b.toNat ≤ 122)) (xs := s.data.toList) (fun _ => rfl) (fun x l k _ => ?_) s.data.toList 0 rfl]
 ·have e1 : ((s.size : Int) ≥ 1) ↔ 1 ≤ s.size := by omega
  have e2 : ((s.size : Int) ≤ 6) ↔ s.size ≤ 6 := by omega
  cases allFrom (fun (b : UInt8) _ => decide (97 ≤ b.toNat) && decide (b.toNat ≤ 122)) s.data.toList 0
  ·rfl
  ·by_cases h1 : 1 ≤ s.size <;> simp [e1, e2, h1]
 ·have e1 : ((x.toNat : Int) < 97) ↔ ¬ 97 ≤ x.toNat := by omega
  have e2 : ((x.toNat : Int) > 122) ↔ ¬ x.toNat ≤ 122 := by omega
  simp only [gl_ci9_1, e1, e2]
  by_cases h1 : 97 ≤ x.toNat <;> by_cases h2 : x.toNat ≤ 122 <;> simp [h1, h2]
theorem i_WordOk {s : Str} (h : s.size ≤ 1048576) : gf_al9 s = some (mWord s) := by
 unfold gf_al9 mWord
 rw [if_pos (fits_small h), loopB (gl := gl_al9_1) (p := fun (b : UInt8) _ => decide (97 ≤ b.toNat) && decide (b.toNat ≤ 122)) (xs := s.data.toList) (fun _ => rfl) (fun x l k _ => ?_) s.data.toList 0 rfl]
 ·have e1 : ((s.size : Int) ≥ 1) ↔ 1 ≤ s.size := by omega
  have e2 : ((s.size : Int) ≤ 6) ↔ s.size ≤ 6 := by omega
  cases allFrom (fun (b : UInt8) _ => decide (97 ≤ b.toNat) && decide (b.toNat ≤ 122)) s.data.toList 0
  ·rfl
  ·by_cases h1 : 1 ≤ s.size <;> simp [gf_ap9, e1, e2, h1]
 ·have e1 : ((x.toNat : Int) < 97) ↔ ¬ 97 ≤ x.toNat := by omega
  have e2 : ((x.toNat : Int) > 122) ↔ ¬ x.toNat ≤ 122 := by omega
  simp only [gl_al9_1, e1, e2]
  by_cases h1 : 97 ≤ x.toNat <;> by_cases h2 : x.toNat ≤ 122 <;> simp [h1, h2]
theorem s_l1Num (n : Int) : gf_ck9 n = some (mNum n) := by
 unfold gf_ck9 mNum
 by_cases h : -1000 ≤ n <;> simp [h]
theorem i_within (n a b : Int) : gf_ap9 n a b = some (decide (a ≤ n) && decide (n ≤ b)) := by
 unfold gf_ap9
 by_cases h : a ≤ n <;> simp [h]
theorem s_l1Pts {xs : List Pt} (h : xs.length ≤ 1048576) : gf_cl9 xs = some (mPts xs && decide (xs.length ≤ 6)) := by
 unfold gf_cl9 mPts
 rw [if_pos (fits_small h), loopB (gl := gl_cl9_1 xs) (p := fun p k => mNum p.x && (mNum p.y && (decide (k = 0) || decide (xs[k - 1]? ≠ some p)))) (xs := xs) (fun _ => rfl) (fun x l k hd => ?_) xs 0 rfl]
 ·rw [show decide ((xs.length : Int) ≤ 6) = decide (xs.length ≤ 6) from decI]
  exact endB
 ·simp only [gl_cl9_1, s_l1Num, Option.bind_some, ptb, posI]
  rcases Nat.eq_zero_or_pos k with rfl | hk
  ·cases mNum x.x <;> cases mNum x.y <;> simp
  ·obtain ⟨y, hy⟩ := drop_prev hd hk
   have hl := drop_len hd
   have hw := wrap_pred hk (by omega)
   rw [hw, idx_nat, hy]
   have hk' : ¬ k = 0 := by omega
   by_cases e : x = y
   ·subst e
    cases mNum x.x <;> cases mNum x.y <;> simp [hk, hk', hy]
   ·have e' : ¬ y = x := fun h => e h.symm
    cases mNum x.x <;> cases mNum x.y <;> simp [hk, hk', hy, e, e']
theorem s_ShapeOk {x : Shape} (h : x.pts.length ≤ 1048576) : gf_cf9 x = some (mShape x) := by
 unfold gf_cf9 mShape
 rw [s_l1Pts h]
 simp only [Option.bind_some, ptb]
 have c1 : ((x.pts.length : Int) == 1) = decide (x.pts.length = 1) := by
  by_cases e : x.pts.length = 1 <;> simp [e] <;> omega
 have c2 : ((x.pts.length : Int) ≥ 2) ↔ 2 ≤ x.pts.length := by omega
 have c3 : ((x.pts.length : Int) ≥ 3) ↔ 3 ≤ x.pts.length := by omega
 cases mPts x.pts
 ·simp
 ·by_cases hl : x.pts.length ≤ 6
  ·by_cases k1 : x.kind = 1
   ·simp [k1, hl, c1]
   ·by_cases k2 : x.kind = 2
    ·simp [k2, hl, c2]
    ·by_cases k3 : x.kind = 3
     ·by_cases h3 : 3 ≤ x.pts.length
      ·obtain ⟨p, hp⟩ : ∃ p, x.pts[0]? = some p := ⟨x.pts[0], List.getElem?_eq_getElem (by omega)⟩
       obtain ⟨q, hq⟩ : ∃ p, x.pts[x.pts.length - 1]? = some p := ⟨x.pts[x.pts.length - 1], List.getElem?_eq_getElem (by omega)⟩
       have hw := wrap_pred (k := x.pts.length) (by omega) (by omega)
       have e0 : idx x.pts 0 = some p := by rw [← hp]; exact idx_nat (k := 0)
       have e1 : idx x.pts ((x.pts.length - 1 : Nat) : Int) = some q := by rw [← hq]; exact idx_nat
       rw [hw]
       simp [k3, hl, c3, h3, e0, e1, hp, hq]
      ·simp [k3, hl, c3, h3]
     ·simp [k1, k2, k3, hl]
  ·simp [hl]
theorem i_ptOk (p : Pt) : gf_an9 p = some (mNum p.x && mNum p.y) := by
 unfold gf_an9 mNum
 rw [i_within, i_within]
 simp only [Option.bind_some]
 cases (decide (-1000 ≤ p.x) && decide (p.x ≤ 1000)) <;> simp
theorem i_ShapeOk {x : Shape} (h : x.pts.length ≤ 1048576) : gf_ai9 x = some (mShape x) := by
 unfold gf_ai9 mShape
 have c1 : ((x.pts.length : Int) == 1) = decide (x.pts.length = 1) := by
  by_cases e : x.pts.length = 1 <;> simp [e] <;> omega
 have c2 : ((2 : Int) ≤ (x.pts.length : Int)) ↔ 2 ≤ x.pts.length := by omega
 have c3 : ((3 : Int) ≤ (x.pts.length : Int)) ↔ 3 ≤ x.pts.length := by omega
 have c6 : ((x.pts.length : Int) ≤ 6) ↔ x.pts.length ≤ 6 := by omega
 rw [if_pos (fits_small h), loopB (gl := gl_ai9_1 x) (p := fun p k => mNum p.x && (mNum p.y && (decide (k = 0) || decide (x.pts[k - 1]? ≠ some p)))) (xs := x.pts) (fun _ => rfl) (fun y l k hd => ?_) x.pts 0 rfl]
 ·show _ = some (mPts x.pts && _)
  have hm : allFrom (fun (p : Pt) k => mNum p.x && (mNum p.y && (decide (k = 0) || decide (x.pts[k - 1]? ≠ some p)))) x.pts 0 = mPts x.pts := rfl
  rw [hm]
  cases mPts x.pts
  ·rfl
  ·simp only [if_true, Option.bind_some, ptb, i_within]
   by_cases k1 : x.kind = 1
   ·by_cases e : x.pts.length = 1 <;> simp [k1, c1, e]
   ·by_cases k2 : x.kind = 2
    ·by_cases e : x.pts.length ≤ 6 <;> simp [k2, c2, c6, e]
    ·by_cases k3 : x.kind = 3
     ·by_cases h3 : 3 ≤ x.pts.length
      ·obtain ⟨p, hp⟩ : ∃ p, x.pts[0]? = some p := ⟨x.pts[0], List.getElem?_eq_getElem (by omega)⟩
       obtain ⟨q, hq⟩ : ∃ p, x.pts[x.pts.length - 1]? = some p := ⟨x.pts[x.pts.length - 1], List.getElem?_eq_getElem (by omega)⟩
       have hw := wrap_pred (k := x.pts.length) (by omega) (by omega)
       have e0 : idx x.pts 0 = some p := by rw [← hp]; exact idx_nat (k := 0)
       have e1 : idx x.pts ((x.pts.length - 1 : Nat) : Int) = some q := by rw [← hq]; exact idx_nat
       rw [hw]
       by_cases e : x.pts.length ≤ 6 <;> simp [k3, c3, c6, h3, e0, e1, hp, hq, e]
      ·simp [k3, c3, c6, h3]
     ·simp [k1, k2, k3]
 ·simp only [gl_ai9_1, i_ptOk, Option.bind_some, ptb, posI]
  rcases Nat.eq_zero_or_pos k with rfl | hk
  ·cases mNum y.x <;> cases mNum y.y <;> simp
  ·obtain ⟨z, hz⟩ := drop_prev hd hk
   have hl := drop_len hd
   have hw := wrap_pred hk (by omega)
   rw [hw, idx_nat, hz]
   have hk' : ¬ k = 0 := by omega
   by_cases e : z = y <;> cases mNum y.x <;> cases mNum y.y <;> simp [hk, hk', hz, e]
theorem s_l2Tags {ts : List Tag} (h : wL wTag ts ≤ 1048576) : gf_cp9 ts = some (mTags ts && decide (ts.length ≤ 4)) := by
 have hlen : ts.length ≤ 1048576 := by unfold wL at h; omega
 unfold gf_cp9 mTags
 rw [if_pos (fits_small hlen), loopB (gl := gl_cp9_1 ts) (p := fun t k => mWord t.key && (mWord t.val && (decide (k = 0) || mPrev Tag.key ts t k))) (xs := ts) (fun _ => rfl) (fun x l k hd => ?_) ts 0 rfl]
 ·rw [show decide ((ts.length : Int) ≤ 4) = decide (ts.length ≤ 4) from decI]
  exact endB
 ·have hx : x ∈ ts := List.mem_of_getElem? (drop_get hd)
  have hs := sum_mem (w := wTag) hx
  unfold wL at h
  have hk1 : x.key.size ≤ 1048576 := by have e0 : wTag x = x.key.size + (x.val.size + 0) := rfl; omega
  have hk2 : x.val.size ≤ 1048576 := by have e0 : wTag x = x.key.size + (x.val.size + 0) := rfl; omega
  simp only [gl_cp9_1, s_WordOk hk1, s_WordOk hk2, Option.bind_some, posI, slt_seq]
  rcases Nat.eq_zero_or_pos k with rfl | hk
  ·cases mWord x.key <;> cases mWord x.val <;> simp
  ·obtain ⟨z, hz⟩ := drop_prev hd hk
   have hl := drop_len hd
   have hw := wrap_pred hk (by omega)
   rw [hw, idx_nat, hz]
   have hk' : ¬ k = 0 := by omega
   cases e : slt z.key x.key <;> cases mWord x.key <;> cases mWord x.val <;> simp [hk, hk', hz, e, mPrev]
theorem s_FeatOk {f : Feat} (h : wFeat f ≤ 1048576) : gf_cb9 f = some (mFeat f) := by
 unfold wFeat wShape at h
 have h1 : f.id.size ≤ 1048576 := by omega
 have h2 : f.shape.pts.length ≤ 1048576 := by unfold wL at h; omega
 unfold gf_cb9 mFeat
 rw [s_WordOk h1, s_ShapeOk h2, s_l2Tags (by omega)]
 simp only [Option.bind_some]
 cases mWord f.id <;> cases mShape f.shape <;> simp
theorem i_FeatOk {f : Feat} (h : wFeat f ≤ 1048576) : gf_ae9 f = some (mFeat f) := by
 unfold wFeat wShape at h
 have h1 : f.id.size ≤ 1048576 := by omega
 have h2 : f.shape.pts.length ≤ 1048576 := by unfold wL at h; omega
 have h3 : wL wTag f.tags ≤ 1048576 := by omega
 have hlen : f.tags.length ≤ 1048576 := by unfold wL at h3; omega
 unfold gf_ae9 mFeat
 rw [if_pos (fits_small hlen), loopB (gl := gl_ae9_1 f) (p := fun t k => mWord t.key && (mWord t.val && (decide (k = 0) || mPrev Tag.key f.tags t k))) (xs := f.tags) (fun _ => rfl) (fun x l k hd => ?_) f.tags 0 rfl]
 ·have hm : allFrom (fun (t : Tag) k => mWord t.key && (mWord t.val && (decide (k = 0) || mPrev Tag.key f.tags t k))) f.tags 0 = mTags f.tags := rfl
  rw [hm, i_WordOk h1, i_ShapeOk h2]
  rw [show decide ((f.tags.length : Int) ≤ 4) = decide (f.tags.length ≤ 4) from decI]
  cases mTags f.tags <;> cases mWord f.id <;> cases mShape f.shape <;> simp
 ·have hx : x ∈ f.tags := List.mem_of_getElem? (drop_get hd)
  have hs := sum_mem (w := wTag) hx
  unfold wL at h3
  have hk1 : x.key.size ≤ 1048576 := by have e0 : wTag x = x.key.size + (x.val.size + 0) := rfl; omega
  have hk2 : x.val.size ≤ 1048576 := by have e0 : wTag x = x.key.size + (x.val.size + 0) := rfl; omega
  simp only [gl_ae9_1, i_WordOk hk1, i_WordOk hk2, Option.bind_some, posI]
  rcases Nat.eq_zero_or_pos k with rfl | hk
  ·cases mWord x.key <;> cases mWord x.val <;> simp
  ·obtain ⟨z, hz⟩ := drop_prev hd hk
   have hl := drop_len hd
   have hw := wrap_pred hk (by omega)
   rw [hw, idx_nat, hz]
   have hk' : ¬ k = 0 := by omega
   cases e : slt z.key x.key <;> cases mWord x.key <;> cases mWord x.val <;> simp [hk, hk', hz, e, mPrev]
theorem s_l1Same {a b : List Pt} (h : a.length ≤ 1048576) : gf_cm9 a b = some (decide (a = b)) := eqd_list (gl := gl_cm9_1) (ok := fun _ => True) (fun _ _ => rfl) (fun a x l k y _ hy => by
 simp only [gl_cm9_1, idx_nat, hy, Option.bind_some, ptb]
 by_cases e : x = y <;> simp [e]) (fun _ _ => rfl) h (fun _ _ => trivial)
theorem i_EqPt {a b : List Pt} (h : a.length ≤ 1048576) : gf_bx9 a b = some (decide (a = b)) := eqd_list (gl := gl_bx9_1) (ok := fun _ => True) (fun _ _ => rfl) (fun a x l k y _ hy => by
 simp only [gl_bx9_1, idx_nat, hy, Option.bind_some, ptb]
 by_cases e : x = y <;> simp [e]) (fun _ _ => rfl) h (fun _ _ => trivial)
theorem s_l2Same {a b : List Tag} (h : a.length ≤ 1048576) : gf_co9 a b = some (decide (a = b)) := eqd_list (gl := gl_co9_1) (ok := fun _ => True) (fun _ _ => rfl) (fun a x l k y _ hy => by
 simp only [gl_co9_1, idx_nat, hy, Option.bind_some, tagb]
 by_cases e : x = y <;> simp [e]) (fun _ _ => rfl) h (fun _ _ => trivial)
theorem i_EqTag {a b : List Tag} (h : a.length ≤ 1048576) : gf_by9 a b = some (decide (a = b)) := eqd_list (gl := gl_by9_1) (ok := fun _ => True) (fun _ _ => rfl) (fun a x l k y _ hy => by
 simp only [gl_by9_1, idx_nat, hy, Option.bind_some, tagb]
 by_cases e : x = y <;> simp [e]) (fun _ _ => rfl) h (fun _ _ => trivial)
theorem s_ShapeSame {a b : Shape} (h : a.pts.length ≤ 1048576) : gf_cg9 a b = some (decide (a = b)) := by
 unfold gf_cg9
 rw [s_l1Same h]
 obtain ⟨k, p⟩ := a; obtain ⟨k2, p2⟩ := b
 by_cases h1 : k = k2 <;> by_cases h2 : p = p2 <;> simp [h1, h2]
theorem s_FeatSame {a b : Feat} (h : wFeat a ≤ 1048576) : gf_cc9 a b = some (decide (a = b)) := by
 unfold wFeat wShape wL at h
 unfold gf_cc9
 rw [s_ShapeSame (by omega), s_l2Same (by omega), seq_dec]
 obtain ⟨i, s, t⟩ := a; obtain ⟨i2, s2, t2⟩ := b
 by_cases h1 : i = i2 <;> by_cases h2 : s = s2 <;> by_cases h3 : t = t2 <;> simp [h1, h2, h3]
theorem i_ShapeSame {a b : Shape} (h : a.pts.length ≤ 1048576) : gf_aj9 a b = some (decide (a = b)) := by
 unfold gf_aj9
 rw [i_EqPt h]
 obtain ⟨k, p⟩ := a; obtain ⟨k2, p2⟩ := b
 by_cases h1 : k = k2 <;> by_cases h2 : p = p2 <;> simp [h1, h2]
theorem i_FeatSame {a b : Feat} (h : wFeat a ≤ 1048576) : gf_af9 a b = some (decide (a = b)) := by
 unfold wFeat wShape wL at h
 unfold gf_af9
 rw [i_ShapeSame (by omega), i_EqTag (by omega), seq_dec]
 obtain ⟨i, s, t⟩ := a; obtain ⟨i2, s2, t2⟩ := b
 by_cases h1 : i = i2 <;> by_cases h2 : s = s2 <;> by_cases h3 : t = t2 <;> simp [h1, h2, h3]
def c1 {α : Type} (_ : α) : Nat := 1
def c2 {α : Type} (_ : α) : Nat := 2
def cnt (m : List Bool) : Nat → Nat
 | 0 => 0
 | k + 1 => cnt m k + (if trueAt m k = true then 1 else 0)
def newUp (m : List Bool) (c : Commit) : Commit := ⟨c.up.map fun u => (cnt m u.toNat : Int), c.sheet, c.note⟩
def sweepC (m : List Bool) : List Commit → Nat → List Commit
 | [], _ => []
 | x :: l, k => if trueAt m k = true then newUp m x :: sweepC m l (k + 1) else sweepC m l (k + 1)
def setAtH (hs : List Head) (k : Nat) (h : Head) (v : Int) : List Head := hs.set k ⟨h.name, v⟩
def mAdd (r : Repo) (n : Str) (s : List Feat) (t : Str) : Repo × Int :=
 if (mRepo r && (mSheet s && mWord t)) = true then
  (match idx r.heads (mHead r.heads n) with
  | none => (r, 1)
  | some h => match idx r.commits h.at_ with
   | none => (r, 1)
   | some x => if x.sheet = s then (r, 3) else
    if mFind r.commits ⟨[h.at_], s, t⟩ < 0 then
     (if r.commits.length = 14 then (r, 2) else (⟨r.commits ++ [⟨[h.at_], s, t⟩], setAtH r.heads (mHead r.heads n).toNat h r.commits.length⟩, 0))
    else (⟨r.commits, setAtH r.heads (mHead r.heads n).toNat h (mFind r.commits ⟨[h.at_], s, t⟩)⟩, 0))
 else (⟨[], []⟩, 4)
theorem sumW_set {α : Type} {w : α → Nat} : ∀ (xs : List α) (k : Nat) (x y : α), xs[k]? = some x → w y ≤ w x → sumW w (xs.set k y) ≤ sumW w xs
 | [], k, x, y, h, _ => by simp at h
 | z :: xs, 0, x, y, h, hw => by
  simp only [List.getElem?_cons_zero, Option.some.injEq] at h
  subst h
  simp only [List.set_cons_zero, sumW]
  omega
 | z :: xs, k + 1, x, y, h, hw => by
  have := sumW_set xs k x y (by simpa using h) hw
  simp only [List.set_cons_succ, sumW]
  omega
theorem setAtH_w {hs : List Head} {n : Str} {h : Head} {v : Int} (hh : idx hs (mHead hs n) = some h) : wL wHead (setAtH hs (mHead hs n).toNat h v) ≤ wL wHead hs := by
 have h1 := (idx_get hh).2
 have := sumW_set (w := wHead) hs _ h ⟨h.name, v⟩ h1 (Nat.le_refl _)
 unfold wL setAtH
 simp only [List.length_set]
 omega
theorem sumW_app1 {α : Type} {w : α → Nat} : ∀ (a : List α) (x : α), sumW w (a ++ [x]) = sumW w a + w x
 | [], x => by simp [sumW]
 | y :: a, x => by simp only [List.cons_append, sumW, sumW_app1 a x]; omega
theorem mAdd_w {r : Repo} {n t : Str} {s : List Feat} : wRepo (mAdd r n s t).1 ≤ wRepo r + (2 + (wL wFeat s + t.size)) := by
 unfold mAdd
 split
 ·split
  ·simp only; omega
  ·rename_i h hh
   split
   ·simp only; omega
   ·split
    ·simp only; omega
    ·split
     ·split
      ·simp only; omega
      ·have := setAtH_w (v := (r.commits.length : Int)) hh
       simp only [wRepo]
       have e : wL wCommit (r.commits ++ [⟨[h.at_], s, t⟩]) = wL wCommit r.commits + (1 + wCommit ⟨[h.at_], s, t⟩) := by
        unfold wL
        rw [sumW_app1]
        simp
        omega
       have e2 : wCommit ⟨[h.at_], s, t⟩ = 1 + (wL wFeat s + (t.size + 0)) := by unfold wCommit; simp [wL, sumW, w0]
       omega
     ·have := setAtH_w (v := mFind r.commits ⟨[h.at_], s, t⟩) hh
      simp only [wRepo]
      omega
 ·have : wRepo ⟨[], []⟩ = 0 := rfl
  simp only [this]
  omega
theorem allF {α : Type} {p : α → Nat → Bool} {l : List α} {k : Nat} (h : allFrom p l k = true) {x : α} (hx : x ∈ l) : ∃ j, p x j = true := by
 obtain ⟨j, hj⟩ := List.getElem?_of_mem hx
 exact ⟨_, allFrom_get h j x hj⟩
theorem mWord_size {s : Str} (h : mWord s = true) : s.size ≤ 7 := by
 simp only [mWord, Bool.and_eq_true, decide_eq_true_eq] at h
 omega
theorem trueAt_lt {m : List Bool} {k : Nat} (h : trueAt m k = true) : k < m.length := by
 unfold trueAt at h
 rcases Nat.lt_or_ge k m.length with h1 | h1
 ·exact h1
 ·rw [List.getElem?_eq_none h1] at h
  cases h
theorem cnt_mono {m : List Bool} {a : Nat} : ∀ {b : Nat}, a ≤ b → cnt m a ≤ cnt m b
 | 0, h => by
  have : a = 0 := by omega
  subst this; exact Nat.le_refl _
 | b + 1, h => by
  rcases Nat.eq_or_lt_of_le h with rfl | h
  ·exact Nat.le_refl _
  ·have := cnt_mono (m := m) (a := a) (b := b) (by omega)
   simp only [cnt]
   omega
theorem sweepC_len {m : List Bool} : ∀ {l : List Commit} {k : Nat}, (sweepC m l k).length + cnt m k = cnt m (k + l.length)
 | [], k => by simp [sweepC]
 | x :: l, k => by
  have ih := sweepC_len (m := m) (l := l) (k := k + 1)
  simp only [cnt] at ih
  rw [List.length_cons, show k + (l.length + 1) = k + 1 + l.length by omega]
  simp only [sweepC]
  split
  ·rename_i h
   rw [if_pos h] at ih
   simp only [List.length_cons]
   omega
  ·rename_i h
   rw [if_neg h] at ih
   omega
theorem sweepC_get {m : List Bool} : ∀ {l : List Commit} {k j : Nat} {x : Commit}, l[j]? = some x → trueAt m (k + j) = true → (sweepC m l k)[cnt m (k + j) - cnt m k]? = some (newUp m x)
 | [], k, j, x, h, _ => by simp at h
 | y :: l, k, 0, x, h, ht => by
  simp only [List.getElem?_cons_zero, Option.some.injEq] at h
  subst h
  simp only [Nat.add_zero] at ht
  simp [sweepC, ht]
 | y :: l, k, j + 1, x, h, ht => by
  rw [show k + (j + 1) = k + 1 + j by omega] at ht ⊢
  have ih := sweepC_get (m := m) (l := l) (k := k + 1) (j := j) (by simpa using h) ht
  have hm := cnt_mono (m := m) (a := k + 1) (b := k + 1 + j) (by omega)
  simp only [cnt] at ih hm
  simp only [sweepC]
  split
  ·rename_i hk
   rw [if_pos hk] at ih hm
   rw [show cnt m (k + 1 + j) - cnt m k = cnt m (k + 1 + j) - (cnt m k + 1) + 1 by omega, List.getElem?_cons_succ]
   exact ih
  ·rename_i hk
   rw [if_neg hk] at ih
   exact ih
theorem cnt_hit {m : List Bool} : ∀ {n j : Nat}, j < cnt m n → ∃ k, k < n ∧ trueAt m k = true ∧ cnt m k = j
 | 0, j, h => by simp [cnt] at h
 | n + 1, j, h => by
  by_cases hn : j < cnt m n
  ·obtain ⟨k, h1, h2, h3⟩ := cnt_hit hn
   exact ⟨k, by omega, h2, h3⟩
  ·simp only [cnt] at h
   split at h
   ·rename_i ht
    exact ⟨n, by omega, ht, by omega⟩
   ·omega
structure Kept (cs : List Commit) (m : List Bool) : Prop where
 hist : Hist cs
 len : m.length = cs.length
 up : ∀ k x u, cs[k]? = some x → trueAt m k = true → u ∈ x.up → trueAt m u.toNat = true
section
variable {cs : List Commit} {m : List Bool}
theorem Kept.get (h : Kept cs m) {k : Nat} (hk : trueAt m k = true) : ∃ x, cs[k]? = some x ∧ (sweepC m cs 0)[cnt m k]? = some (newUp m x) := by
 obtain ⟨x, hx⟩ := getI (xs := cs) (i := k) (by rw [← h.len]; exact trueAt_lt hk)
 have := sweepC_get (m := m) (l := cs) (k := 0) (j := k) hx (by simpa using hk)
 simp only [Nat.zero_add, cnt, Nat.sub_zero] at this
 exact ⟨x, hx, this⟩
theorem Kept.tot (h : Kept cs m) : (sweepC m cs 0).length = cnt m cs.length := by
 have := sweepC_len (m := m) (l := cs) (k := 0)
 simp only [Nat.zero_add, cnt] at this
 exact this
theorem Kept.from (h : Kept cs m) {j : Nat} {y : Commit} (hy : (sweepC m cs 0)[j]? = some y) : ∃ k x, trueAt m k = true ∧ cnt m k = j ∧ cs[k]? = some x ∧ y = newUp m x := by
 have := get_lt hy
 rw [h.tot] at this
 obtain ⟨k, h1, h2, h3⟩ := cnt_hit this
 obtain ⟨x, h4, h5⟩ := h.get h2
 rw [h3, hy] at h5
 exact ⟨k, x, h2, h3, h4, Option.some.inj h5⟩
end
structure Added (r : Repo) (n t : Str) (s : List Feat) (i : Nat) (z : Head) (x : Commit) (q : Repo) (k : Nat) : Prop where
 repo : mRepo r = true
 sheet : mSheet s = true
 word : mWord t = true
 hd : mHead r.heads n = (i : Int)
 at_ : r.heads[i]? = some z
 name : z.name = n
 was : r.commits[z.at_.toNat]? = some x
 ge : 0 ≤ z.at_
 ne : x.sheet ≠ s
 eq : mAdd r n s t = (q, 0)
 heads : q.heads = r.heads.set i ⟨z.name, (k : Int)⟩
 comm : (q.commits = r.commits ∧ k < r.commits.length) ∨ (q.commits = r.commits ++ [⟨[z.at_], s, t⟩] ∧ k = r.commits.length ∧ r.commits.length < 14)
 get : q.commits[k]? = some ⟨[z.at_], s, t⟩
 repo' : mRepo q = true
section
variable {r q : Repo} {n t : Str} {s : List Feat} {i k : Nat} {z : Head} {x : Commit}
theorem Added.w (h : Added r n t s i z x q k) (hw : wRepo r ≤ 1000000) (hs : wL wFeat s ≤ 20000) (ht : t.size ≤ 7) : wRepo q ≤ wRepo r + 20010 := by
 have h1 := mAdd_w (r := r) (n := n) (t := t) (s := s)
 rw [h.eq] at h1
 simp only at h1
 omega
end
section
variable {r q : Repo} {n t : Str} {s : List Feat} {i k : Nat} {z : Head} {x : Commit}
end
def nF : Feat := ⟨⟨#[]⟩, ⟨0, []⟩, []⟩
def mSideOk (id : Str) (had : Bool) (f : Feat) : Bool := if had = true then mFeat f && decide (f.id = id) else decide (f = nF)
def mOne (c : Change) : Bool := mWord c.id && (mSideOk c.id c.had c.was && (mSideOk c.id c.has c.now && !((c.had == c.has) && decide (c.was = c.now))))
def mDiff (d : List Change) : Bool := allFrom (fun c k => mOne c && (decide (k = 0) || mPrev Change.id d c k)) d 0 && decide (d.length ≤ 16)
theorem i_noFeat (f : Feat) : gf_am9 f = some (decide (f = nF)) := by
 obtain ⟨i, ⟨k, p⟩, t⟩ := f
 unfold gf_am9 nF
 simp only [seq_dec]
 by_cases h1 : i = ⟨#[]⟩
 ·by_cases h2 : k = 0
  ·cases p
   ·cases t
    ·simp [h1, h2]
    ·simp [h1, h2]; omega
   ·simp [h1, h2]; omega
  ·simp [h1, h2]
 ·simp [h1]
theorem i_sideOk {id : Str} {had : Bool} {f : Feat} (h : wFeat f ≤ 1048576) : gf_ao9 id had f = some (mSideOk id had f) := by
 unfold gf_ao9 mSideOk
 rw [i_noFeat, i_FeatOk h, seq_dec]
 cases had <;> cases mFeat f <;> simp
theorem i_Change_same {c : Change} (h : wChange c ≤ 1048576) : gf_aa9 c = some ((c.had == c.has) && decide (c.was = c.now)) := by
 unfold wChange at h
 unfold gf_aa9
 rw [i_FeatSame (by omega)]
 cases c.had <;> cases c.has <;> simp
theorem s_l4One {c : Change} (h : wChange c ≤ 1048576) : gf_cq9 c = some (mOne c) := by
 unfold wChange at h
 obtain ⟨id, had, was, has, now⟩ := c
 simp only at h
 unfold gf_cq9 mOne mSideOk
 simp only [s_WordOk (s := id) (by omega), s_FeatSame (a := was) (by omega), s_FeatSame (a := now) (by omega), s_FeatOk (f := was) (by omega), s_FeatOk (f := now) (by omega), seq_dec, Option.bind_some, show (⟨(⟨#[]⟩ : Str), ⟨0, []⟩, []⟩ : Feat) = nF from rfl]
 cases mWord id
 ·simp
 ·cases had <;> cases has
  ·by_cases h1 : was = nF <;> by_cases h2 : now = nF <;> simp [h1, h2]
  ·by_cases h1 : was = nF <;> cases mFeat now <;> by_cases h2 : now.id = id <;> simp [h1, h2]
  ·by_cases h1 : now = nF <;> cases mFeat was <;> by_cases h2 : was.id = id <;> simp [h1, h2]
  ·by_cases h0 : was = now
   ·simp [h0]
   ·cases mFeat was <;> cases mFeat now <;> by_cases h1 : was.id = id <;> by_cases h2 : now.id = id <;> simp [h0, h1, h2]
theorem s_DiffOk {d : List Change} (h : wL wChange d ≤ 1048576) : gf_bz9 d = some (mDiff d) := by
 have hlen : d.length ≤ 1048576 := by unfold wL at h; omega
 unfold gf_bz9 mDiff
 rw [if_pos (fits_small hlen), loopB (gl := gl_bz9_1 d) (p := fun c k => mOne c && (decide (k = 0) || mPrev Change.id d c k)) (xs := d) (fun _ => rfl) (fun x l k hd => ?_) d 0 rfl]
 ·rw [show decide ((d.length : Int) ≤ 16) = decide (d.length ≤ 16) from decI]
  exact endB
 ·have hx : x ∈ d := List.mem_of_getElem? (drop_get hd)
  have hs := sum_mem (w := wChange) hx
  unfold wL at h
  simp only [gl_bz9_1, s_l4One (c := x) (by omega), Option.bind_some, posI, slt_seq]
  rcases Nat.eq_zero_or_pos k with rfl | hk
  ·cases mOne x <;> simp
  ·obtain ⟨z, hz⟩ := drop_prev hd hk
   have hl := drop_len hd
   have hw := wrap_pred hk (by omega)
   rw [hw, idx_nat, hz]
   have hk' : ¬ k = 0 := by omega
   cases e : slt z.id x.id <;> cases mOne x <;> simp [hk, hk', hz, e, mPrev]
theorem i_DiffOk {d : List Change} (h : wL wChange d ≤ 1048576) : gf_ab9 d = some (mDiff d) := by
 have hlen : d.length ≤ 1048576 := by unfold wL at h; omega
 unfold gf_ab9 mDiff
 rw [if_pos (fits_small hlen), loopB (gl := gl_ab9_1 d) (p := fun c k => mOne c && (decide (k = 0) || mPrev Change.id d c k)) (xs := d) (fun _ => rfl) (fun x l k hd => ?_) d 0 rfl]
 ·rw [show decide ((d.length : Int) ≤ 16) = decide (d.length ≤ 16) from decI]
  exact endB
 ·have hx : x ∈ d := List.mem_of_getElem? (drop_get hd)
  have hs := sum_mem (w := wChange) hx
  unfold wL at h
  have h0 : wChange x ≤ 1048576 := by omega
  have e0 : wChange x = x.id.size + (wFeat x.was + (wFeat x.now + 0)) := rfl
  unfold mOne
  simp only [gl_ab9_1, i_WordOk (s := x.id) (by omega), i_sideOk (f := x.was) (by omega), i_sideOk (f := x.now) (by omega), i_Change_same h0, Option.bind_some, posI]
  generalize ((x.had == x.has) && decide (x.was = x.now)) = q
  rcases Nat.eq_zero_or_pos k with rfl | hk
  ·cases mWord x.id <;> cases mSideOk x.id x.had x.was <;> cases mSideOk x.id x.has x.now <;> cases q <;> simp
  ·obtain ⟨z, hz⟩ := drop_prev hd hk
   have hl := drop_len hd
   have hw := wrap_pred hk (by omega)
   rw [hw, idx_nat, hz]
   have hk' : ¬ k = 0 := by omega
   cases e : slt z.id x.id <;> cases mWord x.id <;> cases mSideOk x.id x.had x.was <;> cases mSideOk x.id x.has x.now <;> cases q <;> simp [hk, hk', hz, e, mPrev]
theorem mDiff_one {d : List Change} (h : mDiff d = true) : ∀ c ∈ d, mOne c = true := fun c hc => by
 unfold mDiff at h
 rw [Bool.and_eq_true] at h
 obtain ⟨j, hj⟩ := allF h.1 hc
 rw [Bool.and_eq_true] at hj
 exact hj.1
theorem left2 {n : Int} {w : Nat} (h : ¬ (w : Int) ≤ n) : decide (left n w < 0) = true := by rw [left_neg h]; rfl
theorem left3 {n : Int} {w : Nat} (h : (w : Int) ≤ n) : left n w = n - w ∧ decide (left n w < 0) = false := by rw [left_pos h]; exact ⟨rfl, by simp; omega⟩
theorem catS {a b : Str} (h : a.size + b.size ≤ 9223372036854775807) : cat a b = some (a ++ b) := if_pos h
theorem itoaS_size {n : Int} (h : rI n) : (itoaS n).size ≤ 21 := by
 have := Go.Lib.itoa_length_le n h.1 h.2
 show (Go.Lib.itoa n).toArray.size ≤ 21
 simpa using this
theorem i_Itoa {n : Int} (h : rI n) : gf_cs9 n = some (itoaS n) := by
 unfold gf_cs9 itoaF
 rw [if_pos]
 have h1 := h.1
 have h2 := h.2
 simp [h1, h2]
theorem u8_wrap {n : Nat} (h : n ≤ 200) : IntKind.u8.wrap (n : Int) = (n : Int) := by
 simp only [IntKind.wrap, IntKind.signed, IntKind.bits, Bool.false_and, Bool.false_eq_true, if_false]
 omega
theorem digitS {d : Nat} (h : d ≤ 9) : bstr ([(IntKind.u8.wrap (IntKind.i64.wrap (48 + (d : Int))))] : List Int) = (⟨#[UInt8.ofNat (48 + d)]⟩ : Str) := by
 rw [wrap_id (by omega) (by omega), show (48 + (d : Int)) = ((48 + d : Nat) : Int) by omega, u8_wrap (by omega)]
 rfl
theorem app_mk (a b : List UInt8) : (⟨(a ++ b).toArray⟩ : Str) = (⟨a.toArray⟩ : Str) ++ (⟨b.toArray⟩ : Str) := by
 apply ByteArray.ext
 simp
theorem dec_loop : ∀ (k m v : Nat) (acc : Str), v < 10 ^ k → 0 < k → v ≤ 9223372036854775807 → acc.size + k ≤ 100 → ∃ (d : Nat) (r : Str), gl_cj9_1 (k + m) (v : Int) acc = some ((d : Int), r) ∧ d ≤ 9 ∧ r.size ≤ 100 ∧ (⟨#[UInt8.ofNat (48 + d)]⟩ : Str) ++ r = (⟨(Go.Lib.decDigits v).toArray⟩ : Str) ++ acc
 | 0, m, v, acc, h, hk, _, _ => absurd hk (by omega)
 | k + 1, m, v, acc, h, _, hv, hs => by
  rw [show k + 1 + m = (k + m) + 1 by omega, gl_cj9_1, Go.Lib.decDigits]
  by_cases h9 : v < 10
  ·rw [if_neg (by simp; omega), dif_pos h9]
   exact ⟨v, acc, rfl, by omega, by omega, rfl⟩
  ·have hk : 0 < k := by
    rcases Nat.eq_zero_or_pos k with rfl | hk
    ·simp at h; omega
    ·exact hk
   rw [if_pos (by simp; omega), dif_neg h9]
   have e1 : Int.tmod (v : Int) 10 = ((v % 10 : Nat) : Int) := by rw [Int.tmod_eq_emod_of_nonneg (by omega)]; rfl
   have e2 : IntKind.i64.wrap (Int.tdiv (v : Int) 10) = ((v / 10 : Nat) : Int) := by
    rw [Int.tdiv_eq_ediv_of_nonneg (by omega)]
    exact wrap_id (by omega) (by omega)
   rw [e1, e2, digitS (by omega)]
   rw [catS (by show 1 + acc.size ≤ _; omega)]
   have hsz : ((⟨#[UInt8.ofNat (48 + v % 10)]⟩ : Str) ++ acc).size = 1 + acc.size := by rw [ByteArray.size_append]; rfl
   obtain ⟨d, r, g1, g2, g3, g4⟩ := dec_loop k m (v / 10) ((⟨#[UInt8.ofNat (48 + v % 10)]⟩ : Str) ++ acc) (by rw [Nat.pow_succ] at h; omega) hk (by omega) (by omega)
   refine ⟨d, r, g1, g2, g3, ?_⟩
   rw [g4, app_mk, ByteArray.append_assoc]
theorem dec_nat {v : Nat} (h : v ≤ 9223372036854775807) (rec : Int → Option Str) : gb_cj9 rec (v : Int) = some (⟨(Go.Lib.decDigits v).toArray⟩ : Str) := by
 unfold gb_cj9
 rw [if_neg (by simp), if_neg (by simp)]
 obtain ⟨d, r, g1, g2, g3, g4⟩ := dec_loop 20 (4194304 - 20) v (⟨#[]⟩ : Str) (Nat.lt_of_le_of_lt h (by decide)) (by decide) h (by show 0 + 20 ≤ 100; omega)
 rw [show rounds = 20 + (4194304 - 20) from rfl, g1]
 simp only [Option.bind_some]
 rw [digitS g2, catS (by show 1 + r.size ≤ _; omega), g4]
 simp only [Option.bind_some]
 exact congrArg some ByteArray.append_empty
theorem s_l12Dec {n : Int} (h : rI n) : gf_cj9 rounds n = some (itoaS n) := by
 show gb_cj9 (gf_cj9 4194303) n = some (itoaS n)
 obtain ⟨h1, h2⟩ := h
 unfold itoaS Go.Lib.itoa
 by_cases h0 : n < 0
 ·rw [if_pos h0]
  unfold gb_cj9
  by_cases hm : n < -9223372036854775807
  ·have e : n = -9223372036854775808 := by omega
   subst e
   rw [if_pos (by decide)]
   decide +kernel
  ·rw [if_neg (by simp; omega), if_pos (by simp; omega)]
   rw [wrap_id (by omega) (by omega), show (0 - n) = ((n.natAbs : Nat) : Int) by omega]
   show ((gb_cj9 (gf_cj9 4194302) _).bind _) = _
   rw [dec_nat (by omega)]
   simp only [Option.bind_some]
   have hs : (Go.Lib.decDigits n.natAbs).length ≤ 30 := by
    have := Go.Lib.itoa_length_le n h1 h2
    unfold Go.Lib.itoa at this
    rw [if_pos h0] at this
    simp at this
    omega
   rw [catS (by show 1 + (Go.Lib.decDigits n.natAbs).toArray.size ≤ _; simp; omega)]
   simp only [Option.bind_some]
   congr 1
 ·rw [if_neg h0]
  obtain ⟨v, rfl⟩ := Int.eq_ofNat_of_zero_le (Int.not_lt.1 h0)
  rw [dec_nat (by omega)]
  rfl
def tJ {α : Type} (f : α → Nat → Str) : List α → Nat → Str
 | [], _ => ⟨#[]⟩
 | x :: l, k => f x k ++ tJ f l (k + 1)
theorem tJ_size {α : Type} {f : α → Nat → Str} {M : Nat} {xs : List α} (hz : ∀ x k, x ∈ xs → k < xs.length → (f x k).size ≤ M) : ∀ (l : List α) (k : Nat), xs.drop k = l → (tJ f l k).size ≤ M * l.length
 | [], k, _ => Nat.zero_le _
 | x :: l, k, h => by
  have hm : x ∈ xs := List.mem_of_getElem? (drop_get h)
  have hl := drop_len h
  have h1 := hz x k hm (by omega)
  have h2 := tJ_size hz l (k + 1) (drop_next h)
  show (f x k ++ tJ f l (k + 1)).size ≤ _
  rw [ByteArray.size_append, List.length_cons, Nat.mul_succ]
  omega
theorem loopT {α : Type} {gl : List α → Nat → Str → Option Str} {f : α → Nat → Str} {M B : Nat} {xs : List α} (hn : ∀ k v, gl [] k v = some v) (hs : ∀ x l k v, xs.drop k = x :: l → v.size ≤ B → gl (x :: l) k v = gl l (k + 1) (v ++ f x k)) (hz : ∀ x k, x ∈ xs → k < xs.length → (f x k).size ≤ M) :
  ∀ (l : List α) (k : Nat) (v : Str), xs.drop k = l → v.size + M * l.length ≤ B → gl l k v = some (v ++ tJ f l k)
 | [], k, v, _, _ => by
  rw [hn]
  exact congrArg some ByteArray.append_empty.symm
 | x :: l, k, v, h, hB => by
  have hm : x ∈ xs := List.mem_of_getElem? (drop_get h)
  have hl := drop_len h
  rw [List.length_cons, Nat.mul_succ] at hB
  have h1 := hz x k hm (by omega)
  rw [hs x l k v h (by omega), loopT hn hs hz l (k + 1) (v ++ f x k) (drop_next h) (by rw [ByteArray.size_append]; omega)]
  show _ = some (v ++ (f x k ++ tJ f l (k + 1)))
  rw [ByteArray.append_assoc]
def xPt (p : Pt) (_ : Nat) : Str := (⟨#[32]⟩ : Str) ++ (itoaS p.x ++ ((⟨#[44]⟩ : Str) ++ itoaS p.y))
def xName (k : Int) : Str := if k = 1 then ⟨#[100, 111, 116]⟩ else if k = 2 then ⟨#[108, 105, 110, 101]⟩ else ⟨#[114, 105, 110, 103]⟩
def xShape (s : Shape) : Str := xName s.kind ++ tJ xPt s.pts 0
def xTag (t : Tag) (_ : Nat) : Str := (⟨#[32]⟩ : Str) ++ (t.key ++ ((⟨#[61]⟩ : Str) ++ t.val))
def xFeat (f : Feat) : Str := f.id ++ ((⟨#[32]⟩ : Str) ++ (xShape f.shape ++ tJ xTag f.tags 0))
theorem one_size (c : UInt8) : (⟨#[c]⟩ : Str).size = 1 := rfl
theorem shape_kind {s : Shape} (h : mShape s = true) : s.kind = 1 ∨ s.kind = 2 ∨ s.kind = 3 := by
 unfold mShape at h
 simp only [Bool.and_eq_true] at h
 by_cases h1 : s.kind = 1
 ·exact .inl h1
 by_cases h2 : s.kind = 2
 ·exact .inr (.inl h2)
 by_cases h3 : s.kind = 3
 ·exact .inr (.inr h3)
 simp [h1, h2, h3] at h
theorem shape_pts {s : Shape} (h : mShape s = true) : s.pts.length ≤ 6 ∧ ∀ p ∈ s.pts, rI p.x ∧ rI p.y := by
 unfold mShape at h
 simp only [Bool.and_eq_true, decide_eq_true_eq] at h
 refine ⟨h.2.1, fun p hp => ?_⟩
 have h1 := h.1
 unfold mPts at h1
 obtain ⟨j, hj⟩ := allF h1 hp
 simp only [Bool.and_eq_true, mNum, decide_eq_true_eq] at hj
 exact ⟨⟨by omega, by omega⟩, by omega, by omega⟩
theorem pt_size {p : Pt} {k : Nat} (h : rI p.x ∧ rI p.y) : (xPt p k).size ≤ 44 := by
 unfold xPt
 have h1 := itoaS_size h.1
 have h2 := itoaS_size h.2
 simp only [ByteArray.size_append, one_size]
 omega
theorem name_size {k : Int} : (xName k).size ≤ 4 := by
 unfold xName
 split
 ·decide
 ·split <;> decide
theorem xShape_size {s : Shape} (h : mShape s = true) : (xShape s).size ≤ 268 := by
 obtain ⟨h1, h2⟩ := shape_pts h
 have := tJ_size (M := 44) (xs := s.pts) (f := xPt) (fun x k hx _ => pt_size (h2 x hx)) s.pts 0 rfl
 unfold xShape
 rw [ByteArray.size_append]
 have := name_size (k := s.kind)
 have : 44 * s.pts.length ≤ 264 := by omega
 omega
theorem i_text {s : Shape} (h : mShape s = true) : gf_ak9 s = some (xShape s) := by
 obtain ⟨h1, h2⟩ := shape_pts h
 unfold gf_ak9
 have e : idx shNames s.kind = some (xName s.kind) := by
  rcases shape_kind h with e | e | e <;> rw [e] <;> rfl
 rw [e]
 simp only [Option.bind_some]
 rw [if_pos (fits_small (by omega)), loopT (gl := gl_ak9_1) (f := xPt) (M := 44) (B := 1000) (xs := s.pts) (fun _ _ => rfl) (fun x l k v hd hv => ?_) (fun x k hx _ => pt_size (h2 x hx)) s.pts 0 _ rfl (by have := name_size (k := s.kind); omega)]
 ·rfl
 ·have hx := h2 x (List.mem_of_getElem? (drop_get hd))
  have a1 := itoaS_size hx.1
  have a2 := itoaS_size hx.2
  rw [gl_ak9_1]
  simp only [i_Itoa hx.1, i_Itoa hx.2, Option.bind_some]
  rw [catS (by rw [one_size]; omega)]
  simp only [Option.bind_some]
  rw [catS (by simp only [ByteArray.size_append, one_size]; omega)]
  simp only [Option.bind_some]
  rw [catS (by simp only [ByteArray.size_append, one_size]; omega)]
  simp only [Option.bind_some]
  rw [catS (by simp only [ByteArray.size_append, one_size]; omega)]
  simp only [Option.bind_some, xPt, ByteArray.append_assoc]
theorem s_text {s : Shape} (h : mShape s = true) : gf_ch9 s = some (xShape s) := by
 obtain ⟨h1, h2⟩ := shape_pts h
 unfold gf_ch9
 rw [s_ShapeOk (by omega), h]
 have e : gf_cn9 s.kind = some (xName s.kind) := by
  rcases shape_kind h with e | e | e <;> rw [e] <;> rfl
 simp only [Option.bind_some, e, Bool.not_true, Bool.false_eq_true, if_false]
 rw [if_pos (fits_small (by omega)), loopT (gl := gl_ch9_1) (f := xPt) (M := 44) (B := 1000) (xs := s.pts) (fun _ _ => rfl) (fun x l k v hd hv => ?_) (fun x k hx _ => pt_size (h2 x hx)) s.pts 0 _ rfl (by have := name_size (k := s.kind); omega)]
 ·rfl
 ·have hx := h2 x (List.mem_of_getElem? (drop_get hd))
  have a1 := itoaS_size hx.1
  have a2 := itoaS_size hx.2
  rw [gl_ch9_1]
  simp only [s_l12Dec hx.1, s_l12Dec hx.2, Option.bind_some]
  rw [catS (by rw [one_size]; omega)]
  simp only [Option.bind_some]
  rw [catS (by simp only [ByteArray.size_append, one_size]; omega)]
  simp only [Option.bind_some]
  rw [catS (by simp only [ByteArray.size_append, one_size]; omega)]
  simp only [Option.bind_some]
  rw [catS (by simp only [ByteArray.size_append, one_size]; omega)]
  simp only [Option.bind_some, xPt, ByteArray.append_assoc]
theorem feat_parts {f : Feat} (h : mFeat f = true) : mWord f.id = true ∧ mShape f.shape = true ∧ f.tags.length ≤ 4 ∧ ∀ t ∈ f.tags, t.key.size ≤ 7 ∧ t.val.size ≤ 7 := by
 unfold mFeat at h
 simp only [Bool.and_eq_true, decide_eq_true_eq] at h
 refine ⟨h.1, h.2.1, h.2.2.2, fun t ht => ?_⟩
 have h1 := h.2.2.1
 unfold mTags at h1
 obtain ⟨j, hj⟩ := allF h1 ht
 simp only [Bool.and_eq_true] at hj
 exact ⟨mWord_size hj.1, mWord_size hj.2.1⟩
theorem tag_size {t : Tag} {k : Nat} (h : t.key.size ≤ 7 ∧ t.val.size ≤ 7) : (xTag t k).size ≤ 16 := by
 unfold xTag
 simp only [ByteArray.size_append, one_size]
 omega
theorem xFeat_size {f : Feat} (h : mFeat f = true) : (xFeat f).size ≤ 340 := by
 obtain ⟨h1, h2, h3, h4⟩ := feat_parts h
 have a1 := mWord_size h1
 have a2 := xShape_size h2
 have a3 := tJ_size (M := 16) (xs := f.tags) (f := xTag) (fun x k hx _ => tag_size (h4 x hx)) f.tags 0 rfl
 unfold xFeat
 simp only [ByteArray.size_append, one_size]
 omega
theorem i_FeatText {f : Feat} (h : wFeat f ≤ 1048576) : gf_ag9 f = some (if mFeat f = true then xFeat f else ⟨#[]⟩) := by
 unfold gf_ag9
 rw [i_FeatOk h]
 simp only [Option.bind_some]
 by_cases hm : mFeat f = true
 ·obtain ⟨h1, h2, h3, h4⟩ := feat_parts hm
  have a1 := mWord_size h1
  have a2 := xShape_size h2
  rw [hm, i_text h2, catS (by rw [one_size]; omega)]
  simp only [Bool.not_true, Bool.false_eq_true, if_false, if_true, Option.bind_some]
  rw [catS (by simp only [ByteArray.size_append, one_size]; omega)]
  simp only [Option.bind_some]
  rw [if_pos (fits_small (by omega)), loopT (gl := gl_ag9_1) (f := xTag) (M := 16) (B := 1000) (xs := f.tags) (fun _ _ => rfl) (fun x l k v hd hv => ?_) (fun x k hx _ => tag_size (h4 x hx)) f.tags 0 _ rfl (by simp only [ByteArray.size_append, one_size]; omega)]
  ·simp only [Option.bind_some, xFeat, ByteArray.append_assoc]
  ·have hx := h4 x (List.mem_of_getElem? (drop_get hd))
   rw [gl_ag9_1]
   rw [catS (by rw [one_size]; omega)]
   simp only [Option.bind_some]
   rw [catS (by simp only [ByteArray.size_append, one_size]; omega)]
   simp only [Option.bind_some]
   rw [catS (by simp only [ByteArray.size_append, one_size]; omega)]
   simp only [Option.bind_some]
   rw [catS (by simp only [ByteArray.size_append, one_size]; omega)]
   simp only [Option.bind_some, xTag, ByteArray.append_assoc]
 ·rw [Bool.not_eq_true] at hm
  rw [hm]
  rfl
theorem s_FeatText {f : Feat} (h : wFeat f ≤ 1048576) : gf_cd9 f = some (if mFeat f = true then xFeat f else ⟨#[]⟩) := by
 unfold gf_cd9
 rw [s_FeatOk h]
 simp only [Option.bind_some]
 by_cases hm : mFeat f = true
 ·obtain ⟨h1, h2, h3, h4⟩ := feat_parts hm
  have a1 := mWord_size h1
  have a2 := xShape_size h2
  rw [hm, s_text h2, catS (by rw [one_size]; omega)]
  simp only [Bool.not_true, Bool.false_eq_true, if_false, if_true, Option.bind_some]
  rw [catS (by simp only [ByteArray.size_append, one_size]; omega)]
  simp only [Option.bind_some]
  rw [if_pos (fits_small (by omega)), loopT (gl := gl_cd9_1) (f := xTag) (M := 16) (B := 1000) (xs := f.tags) (fun _ _ => rfl) (fun x l k v hd hv => ?_) (fun x k hx _ => tag_size (h4 x hx)) f.tags 0 _ rfl (by simp only [ByteArray.size_append, one_size]; omega)]
  ·simp only [Option.bind_some, xFeat, ByteArray.append_assoc]
  ·have hx := h4 x (List.mem_of_getElem? (drop_get hd))
   rw [gl_cd9_1]
   rw [catS (by rw [one_size]; omega)]
   simp only [Option.bind_some]
   rw [catS (by simp only [ByteArray.size_append, one_size]; omega)]
   simp only [Option.bind_some]
   rw [catS (by simp only [ByteArray.size_append, one_size]; omega)]
   simp only [Option.bind_some]
   rw [catS (by simp only [ByteArray.size_append, one_size]; omega)]
   simp only [Option.bind_some, xTag, ByteArray.append_assoc]
 ·rw [Bool.not_eq_true] at hm
  rw [hm]
  rfl
def xSide (had : Bool) (f : Feat) : Str := if had = true then (if mFeat f = true then xFeat f else ⟨#[]⟩) else ⟨#[45]⟩
theorem side_size {b : Bool} {f : Feat} : (xSide b f).size ≤ 340 := by
 unfold xSide
 split
 ·split
  ·exact xFeat_size ‹_›
  ·exact Nat.zero_le _
 ·decide
theorem i_xSide {b : Bool} {f : Feat} (h : wFeat f ≤ 1048576) : gf_ad9 b f = some (xSide b f) := by
 unfold gf_ad9 xSide
 rw [i_FeatText h]
 cases b <;> rfl
theorem s_xSide {b : Bool} {f : Feat} (h : wFeat f ≤ 1048576) : gf_cr9 f b = some (xSide b f) := by
 unfold gf_cr9 xSide
 rw [s_FeatText h]
 cases b <;> rfl
def xChange (c : Change) (_ : Nat) : Str := c.id ++ ((⟨#[58, 32]⟩ : Str) ++ (xSide c.had c.was ++ ((⟨#[32, 62, 32]⟩ : Str) ++ (xSide c.has c.now ++ (⟨#[10]⟩ : Str)))))
theorem two_size (c d : UInt8) : (⟨#[c, d]⟩ : Str).size = 2 := rfl
theorem three_size (c d e : UInt8) : (⟨#[c, d, e]⟩ : Str).size = 3 := rfl
theorem change_size {c : Change} {k : Nat} (h : c.id.size ≤ 7) : (xChange c k).size ≤ 700 := by
 unfold xChange
 have := side_size (b := c.had) (f := c.was)
 have := side_size (b := c.has) (f := c.now)
 simp only [ByteArray.size_append, one_size, two_size, three_size]
 omega
def xDiff (d : List Change) : Str := if mDiff d = true then tJ xChange d 0 else ⟨#[]⟩
theorem diff_parts {d : List Change} (h : mDiff d = true) : d.length ≤ 16 ∧ ∀ c ∈ d, c.id.size ≤ 7 := by
 refine ⟨?_, fun c hc => ?_⟩
 ·unfold mDiff at h
  rw [Bool.and_eq_true, decide_eq_true_eq] at h
  exact h.2
 ·have := mDiff_one h c hc
  unfold mOne at this
  rw [Bool.and_eq_true] at this
  exact mWord_size this.1
theorem xDiff_size {d : List Change} : (xDiff d).size ≤ 11200 := by
 unfold xDiff
 split
 ·obtain ⟨h1, h2⟩ := diff_parts ‹_›
  have := tJ_size (M := 700) (xs := d) (f := xChange) (fun x k hx _ => change_size (h2 x hx)) d 0 rfl
  omega
 ·exact Nat.zero_le _
theorem i_DiffText {d : List Change} (h : wL wChange d ≤ 1048576) : gf_ac9 d = some (xDiff d) := by
 unfold gf_ac9 xDiff
 rw [i_DiffOk h]
 simp only [Option.bind_some]
 by_cases hm : mDiff d = true
 ·obtain ⟨h1, h2⟩ := diff_parts hm
  rw [hm]
  simp only [Bool.not_true, Bool.false_eq_true, if_false, if_true]
  rw [if_pos (fits_small (by omega)), loopT (gl := gl_ad9) (f := xChange) (M := 700) (B := 20000) (xs := d) (fun _ _ => rfl) (fun x l k v hd hv => ?_) (fun x k hx _ => change_size (h2 x hx)) d 0 _ rfl (by show 0 + _ ≤ _; omega)]
  ·simp only [Option.bind_some]
   exact congrArg some ByteArray.empty_append
  ·have hx : x ∈ d := List.mem_of_getElem? (drop_get hd)
   have hs := sum_mem (w := wChange) hx
   unfold wL at h
   have e0 : wChange x = x.id.size + (wFeat x.was + (wFeat x.now + 0)) := rfl
   have a1 := h2 x hx
   have a2 := side_size (b := x.had) (f := x.was)
   have a3 := side_size (b := x.has) (f := x.now)
   rw [gl_ad9]
   simp only [i_xSide (f := x.was) (by omega), i_xSide (f := x.now) (by omega), Option.bind_some]
   rw [catS (by rw [two_size]; omega)]
   simp only [Option.bind_some]
   rw [catS (by simp only [ByteArray.size_append, one_size, two_size, three_size]; omega)]
   simp only [Option.bind_some]
   rw [catS (by simp only [ByteArray.size_append, one_size, two_size, three_size]; omega)]
   simp only [Option.bind_some]
   rw [catS (by simp only [ByteArray.size_append, one_size, two_size, three_size]; omega)]
   simp only [Option.bind_some]
   rw [catS (by simp only [ByteArray.size_append, one_size, two_size, three_size]; omega)]
   simp only [Option.bind_some]
   rw [catS (by simp only [ByteArray.size_append, one_size, two_size, three_size]; omega)]
   simp only [Option.bind_some, xChange, ByteArray.append_assoc]
 ·rw [Bool.not_eq_true] at hm
  rw [hm]
  rfl
theorem s_DiffText {d : List Change} (h : wL wChange d ≤ 1048576) : gf_ca9 d = some (xDiff d) := by
 have hlen : d.length ≤ 1048576 := by unfold wL at h; omega
 unfold gf_ca9 xDiff
 rw [if_pos (fits_small hlen)]
 by_cases hm : mDiff d = true
 ·obtain ⟨h1, h2⟩ := diff_parts hm
  rw [hm]
  simp only [if_true]
  rw [loopT (gl := gl_ca9_1 d) (f := xChange) (M := 700) (B := 20000) (xs := d) (fun _ _ => rfl) (fun x l k v hd hv => ?_) (fun x k hx _ => change_size (h2 x hx)) d 0 _ rfl (by show 0 + _ ≤ _; omega)]
  ·simp only [Option.bind_some]
   exact congrArg some ByteArray.empty_append
  ·have hx : x ∈ d := List.mem_of_getElem? (drop_get hd)
   have hs := sum_mem (w := wChange) hx
   have h' := h
   unfold wL at h'
   have e0 : wChange x = x.id.size + (wFeat x.was + (wFeat x.now + 0)) := rfl
   have a1 := h2 x hx
   have a2 := side_size (b := x.had) (f := x.was)
   have a3 := side_size (b := x.has) (f := x.now)
   rw [gl_ca9_1, s_DiffOk h, hm]
   simp only [s_xSide (f := x.was) (by omega), s_xSide (f := x.now) (by omega), Option.bind_some, if_true]
   rw [catS (by omega)]
   simp only [Option.bind_some]
   rw [catS (by simp only [ByteArray.size_append, one_size, two_size, three_size]; omega)]
   simp only [Option.bind_some]
   rw [catS (by simp only [ByteArray.size_append, one_size, two_size, three_size]; omega)]
   simp only [Option.bind_some]
   rw [catS (by simp only [ByteArray.size_append, one_size, two_size, three_size]; omega)]
   simp only [Option.bind_some]
   rw [catS (by simp only [ByteArray.size_append, one_size, two_size, three_size]; omega)]
   simp only [Option.bind_some]
   rw [catS (by simp only [ByteArray.size_append, one_size, two_size, three_size]; omega)]
   simp only [Option.bind_some, xChange, ByteArray.append_assoc]
 ·rw [Bool.not_eq_true] at hm
  rw [hm]
  cases d with
  | nil => rfl
  | cons x l =>
   rw [gl_ca9_1, s_DiffOk h, hm]
   rfl
def xUp (u : Int) (_ : Nat) : Str := (⟨#[32]⟩ : Str) ++ itoaS u
def xEntry (e : Entry) (k : Nat) : Str := itoaS (k : Int) ++ (tJ xUp e.up 0 ++ ((⟨#[32]⟩ : Str) ++ (e.note ++ ((⟨#[10]⟩ : Str) ++ xDiff e.diff))))
def xPack (l : List Entry) : Str := tJ xEntry l 0
structure OkPk (l : List Entry) : Prop where
 len : l.length ≤ 1048576
 up : ∀ e ∈ l, e.up.length ≤ 1048576
 note : ∀ e ∈ l, e.note.size ≤ 1048576
 diff : ∀ e ∈ l, wL wChange e.diff ≤ 1048576
 num : ∀ e ∈ l, ∀ u ∈ e.up, rI u
theorem up_size {u : Int} {k : Nat} (h : rI u) : (xUp u k).size ≤ 22 := by
 have := itoaS_size h
 unfold xUp
 simp only [ByteArray.size_append, one_size]
 omega
theorem rI_nat {k : Nat} (h : k ≤ 1048576) : rI (k : Int) := ⟨by omega, by omega⟩
theorem ups_size {l : List Int} (h : ∀ u ∈ l, rI u) : (tJ xUp l 0).size ≤ 22 * l.length := tJ_size (M := 22) (xs := l) (f := xUp) (fun x k hx _ => up_size (h x hx)) l 0 rfl
theorem entry_size {l : List Entry} (h : OkPk l) {e : Entry} {k : Nat} (he : e ∈ l) (hk : k < l.length) : (xEntry e k).size ≤ 33554432 := by
 have := h.len
 have := h.up e he
 have := h.note e he
 have := ups_size (h.num e he)
 have := itoaS_size (n := (k : Int)) (rI_nat (by omega))
 have := xDiff_size (d := e.diff)
 unfold xEntry
 simp only [ByteArray.size_append, one_size]
 omega
theorem i_PackText {l : List Entry} (h : OkPk l) : gf_ah9 l = some (xPack l) := by
 have hl := h.len
 unfold gf_ah9 xPack
 rw [if_pos (fits_small hl), loopT (gl := gl_ah9_4) (f := xEntry) (M := 33554432) (B := 1000000000000000) (xs := l) (fun _ _ => rfl) (fun x r k v hd hv => ?_) (fun x k hx hk => entry_size h hx hk) l 0 _ rfl (by show 0 + _ ≤ _; omega)]
 ·simp only [Option.bind_some]
  exact congrArg some ByteArray.empty_append
 ·have hx : x ∈ l := List.mem_of_getElem? (drop_get hd)
  have hk := drop_len hd
  have a1 := itoaS_size (n := (k : Int)) (rI_nat (by omega))
  have a2 := h.up x hx
  have a3 := h.note x hx
  have a4 := h.num x hx
  have a5 := ups_size a4
  have a6 := xDiff_size (d := x.diff)
  rw [gl_ah9_4]
  simp only [i_Itoa (n := (k : Int)) (rI_nat (by omega)), Option.bind_some]
  rw [catS (by omega)]
  simp only [Option.bind_some]
  rw [if_pos (fits_small a2), loopT (gl := gl_ah9_5) (f := xUp) (M := 22) (B := 2000000000000000) (xs := x.up) (fun _ _ => rfl) (fun y r k v hd hv => ?_) (fun y k hy _ => up_size (a4 y hy)) x.up 0 _ rfl (by simp only [ByteArray.size_append]; omega)]
  ·simp only [Option.bind_some]
   rw [catS (by rw [one_size]; omega)]
   simp only [Option.bind_some]
   rw [catS (by simp only [ByteArray.size_append, one_size]; omega)]
   simp only [Option.bind_some, i_DiffText (h.diff x hx)]
   rw [catS (by simp only [ByteArray.size_append, one_size]; omega)]
   simp only [Option.bind_some]
   rw [catS (by simp only [ByteArray.size_append, one_size]; omega)]
   simp only [Option.bind_some, xEntry, ByteArray.append_assoc]
  ·have b1 := a4 y (List.mem_of_getElem? (drop_get hd))
   have b2 := itoaS_size b1
   rw [gl_ah9_5, i_Itoa b1]
   simp only [Option.bind_some]
   rw [catS (by rw [one_size]; omega)]
   simp only [Option.bind_some]
   rw [catS (by simp only [ByteArray.size_append, one_size]; omega)]
   simp only [Option.bind_some, xUp]
theorem s_PackText {l : List Entry} (h : OkPk l) : gf_ce9 l = some (xPack l) := by
 have hl := h.len
 unfold gf_ce9 xPack
 rw [if_pos (fits_small hl), loopT (gl := gl_ce9_4) (f := xEntry) (M := 33554432) (B := 1000000000000000) (xs := l) (fun _ _ => rfl) (fun x r k v hd hv => ?_) (fun x k hx hk => entry_size h hx hk) l 0 _ rfl (by show 0 + _ ≤ _; omega)]
 ·simp only [Option.bind_some]
  exact congrArg some ByteArray.empty_append
 ·have hx : x ∈ l := List.mem_of_getElem? (drop_get hd)
  have hk := drop_len hd
  have a1 := itoaS_size (n := (k : Int)) (rI_nat (by omega))
  have a2 := h.up x hx
  have a3 := h.note x hx
  have a4 := h.num x hx
  have a5 := ups_size a4
  have a6 := xDiff_size (d := x.diff)
  rw [gl_ce9_4]
  simp only [s_l12Dec (n := (k : Int)) (rI_nat (by omega)), Option.bind_some]
  rw [catS (by omega)]
  simp only [Option.bind_some]
  rw [if_pos (fits_small a2), loopT (gl := gl_ce9_5) (f := xUp) (M := 22) (B := 2000000000000000) (xs := x.up) (fun _ _ => rfl) (fun y r k v hd hv => ?_) (fun y k hy _ => up_size (a4 y hy)) x.up 0 _ rfl (by simp only [ByteArray.size_append]; omega)]
  ·simp only [Option.bind_some]
   rw [catS (by simp only [ByteArray.size_append, one_size]; omega)]
   simp only [Option.bind_some]
   rw [catS (by simp only [ByteArray.size_append, one_size]; omega)]
   simp only [Option.bind_some]
   rw [catS (by simp only [ByteArray.size_append, one_size]; omega)]
   simp only [Option.bind_some, s_DiffText (h.diff x hx)]
   rw [catS (by simp only [ByteArray.size_append, one_size]; omega)]
   simp only [Option.bind_some, xEntry, ByteArray.append_assoc]
  ·have b1 := a4 y (List.mem_of_getElem? (drop_get hd))
   have b2 := itoaS_size b1
   rw [gl_ce9_5, s_l12Dec b1]
   rw [catS (by rw [one_size]; omega)]
   simp only [Option.bind_some]
   rw [catS (by simp only [ByteArray.size_append, one_size]; omega)]
   simp only [Option.bind_some, xUp, ByteArray.append_assoc]
theorem okPk_of {a : List Entry} (ha : okL okEntry a) (hw : wL wEntry a ≤ 1048576) : OkPk a := by
 have hs : ∀ e ∈ a, wL w0 e.up + (e.note.size + (wL wChange e.diff + 0)) ≤ 1048576 := fun e he => by
  have := sum_mem (w := wEntry) he
  unfold wL at hw
  have e0 : wEntry e = wL w0 e.up + (e.note.size + (wL wChange e.diff + 0)) := rfl
  omega
 refine ⟨by unfold wL at hw; omega, fun e he => ?_, fun e he => ?_, fun e he => ?_, fun e he => ?_⟩
 ·have := hs e he
  have h2 : wL w0 e.up = e.up.length + sumW w0 e.up := rfl
  omega
 ·have := hs e he
  omega
 ·have := hs e he
  omega
 ·exact (ha.2 e he).1.2
theorem law_FnExactPackText (a : List Entry) (ha : okL okEntry a) : gf_aq9 a = some true := by
 unfold gf_aq9
 rw [p_szEntryS a 1048576 ha (by decide) (by decide)]
 simp only [Option.bind_some]
 by_cases hw : (wL wEntry a : Int) ≤ 1048576
 ·obtain ⟨e3, e4⟩ := left3 hw
  rw [e4]
  have h1 : wL wEntry a ≤ 1048576 := by omega
  have h := okPk_of ha h1
  simp [p_toEntryS a (by omega), s_PackText h, i_PackText h, p_eqEntryS a (by omega), seq_self]
 ·rw [left2 hw]
  rfl
end Go.Proofs.AM
