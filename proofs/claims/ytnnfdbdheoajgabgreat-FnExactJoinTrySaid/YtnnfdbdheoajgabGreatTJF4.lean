/- Lemmas of the proof (TJF4), on an abstract machine. Conditions: none. -/
import Derived.Test.YtnnfdbdheoajgabGreatTJD
set_option linter.unusedVariables false
set_option linter.unusedSimpArgs false
set_option maxRecDepth 100000
set_option maxHeartbeats 4000000
namespace Go.Proofs.AM
attribute [local irreducible] vwp vstps vstpLs vstp vdo vret kseq kblk kloop kend kcut kloop2 frzV renV shutK pfzV trnV unrV
theorem d_gb9 : OkC [c_ga9, c_gd9, c_fp9, c_fc9] c_gb9 if_gb9 ks_gb9 := by
 refine ok fun G H ⟨a0, a1, a2⟩ r h => ?_
 refine st1 fun bs t o => ?_
 dsimp only [gf_gb9] at h
 refine gx fun x3 h4 => ?_; intros; rename_i h
 obtain ⟨hf, h⟩ := gd h
 obtain ⟨q212, hq, h⟩ := bnd h
 refine w_lastK [] [] (fun K J t o => ∃ b294 c295 b297 c298, PP ((9, .ref 136 b294 c295 0 q212.1.length 100) :: (10, .ref 144 b297 c298 0 q212.2.length 178) :: K) ((136, ent b294 c295 100 (List.map (eFeat true) q212.1)) :: (144, ent b297 c298 178 (List.map eClash q212.2)) :: J) t o) ?_ ?_
 ·refine w_lpL (xs := x3) [0, 1, 2, 11] [176] 0 hf (fun K J l222 k220 t o => ∃ v214 v217 b215 c216 b218 c219, gl_gb9_4 a0 a1 a2 l222 k220 v214 v217 = some q212 ∧ PP ((9, .ref 136 b215 c216 0 v214.length 100) :: (10, .ref 144 b218 c219 0 v217.length 178) :: (12, .v (.int .i64 (k220 : Int))) :: K) ((136, ent b215 c216 100 (List.map (eFeat true) v214)) :: (144, ent b218 c219 178 (List.map eClash v217)) :: J) t o) ?_ ?_ ?_
  ·exact ⟨_, _, _, _, _, _, hq, pin, pinh⟩
  ·rintro k220 t o hlt ⟨v214, v217, b215, c216, b218, c219, h, pq⟩
   refine pn pq ?_
   rw [gl_gb9_4] at h
   exact cls
  rintro x221 l222 k220 t o hlt hx226 hw hd ⟨v214, v217, b215, c216, b218, c219, h, pq⟩
  refine pn pq ?_
  rw [gl_gb9_4] at h
  refine gx fun x229 h230 => ?_; intros; rename_i h
  obtain ⟨q242, hq, h⟩ := bnd h
  refine w_cutK [0, 1, 2, 10, 11, 12, 15] [144, 176, 301] (fun K J t o => ∃ b248 c249, PP ((9, .ref 136 b248 c249 0 q242.length 100) :: K) ((136, ent b248 c249 100 (List.map (eFeat true) q242)) :: J) t o) ?_ ?_
  ·have h := hq
   exact cls
  rintro t o ⟨b248, c249, pq⟩
  refine pn pq ?_
  try (refine gx ?_; intros; rename_i h)
  obtain ⟨hf, h⟩ := gd h
  obtain ⟨q272, hq, h⟩ := bnd h
  refine w_lastK [0, 1, 2, 9, 11, 12] [136, 176] (fun K J t o => ∃ b291 c292, PP ((10, .ref 144 b291 c292 0 q272.length 178) :: K) ((144, ent b291 c292 178 (List.map eClash q272)) :: J) t o) ?_ ?_
  ·refine w_lpL (xs := x229.2.2) [0, 1, 2, 9, 11, 12, 15] [136, 176, 301] 0 hf (fun K J l279 k277 t o => ∃ v274 b275 c276, gl_gb9_5 x221 l279 k277 v274 = some q272 ∧ PP ((10, .ref 144 b275 c276 0 v274.length 178) :: (16, .v (.int .i64 (k277 : Int))) :: K) ((144, ent b275 c276 178 (List.map eClash v274)) :: J) t o) ?_ ?_ ?_
   ·exact ⟨_, _, _, hq, pin, pinh⟩
   ·rintro k277 t o hlt ⟨v274, b275, c276, h, pq⟩
    refine pn pq ?_
    rw [gl_gb9_5] at h
    exact cls
   rintro x278 l279 k277 t o hlt hx283 hw hd ⟨v274, b275, c276, h, pq⟩
   refine pn pq ?_
   rw [gl_gb9_5] at h
   exact cls
  rintro t o ⟨b291, c292, pq⟩
  refine pnq pq ?_
  exact cls
 rintro t o ⟨b294, c295, b297, c298, pq⟩
 refine pnq pq ?_
 exact cls
theorem d_eu9 : OkC [c_ew9] c_eu9 if_eu9 ks_eu9 := by
 refine ok fun G H ⟨a0, a1, a2⟩ r h => ?_
 refine st1 fun bs t o => ?_
 dsimp only [gf_eu9] at h
 exact cls
theorem d_fb9 : OkC [c_fc9, c_gb9] c_fb9 if_fb9 ks_fb9 := by
 refine ok fun G H ⟨a0, a1, a2⟩ r h => ?_
 refine st1 fun bs t o => ?_
 dsimp only [gf_fb9] at h
 exact cls
theorem d_ev9 : OkC [c_eu9, c_fb9] c_ev9 if_ev9 ks_ev9 := by
 refine ok fun G H ⟨a0, a1, a2⟩ r h => ?_
 refine st1 fun bs t o => ?_
 dsimp only [gf_ev9] at h
 exact cls
theorem d_dp9 : OkC [] c_dp9 if_dp9 ks_dp9 := by
 refine ok fun G H a0 r h => ?_
 refine st1 fun bs t o => ?_
 dsimp only [gf_dp9] at h
 exact cls
theorem d_dq9 : OkC [c_dp9] c_dq9 if_dq9 ks_dq9 := by
 refine ok fun G H a0 r h => ?_
 refine st1 fun bs t o => ?_
 dsimp only [gf_dq9] at h
 refine gx fun h3 => ?_; intros; rename_i h
 obtain ⟨hf, h⟩ := gd h
 obtain ⟨q26, hq, h⟩ := bnd h
 refine w_lastK [] [] (fun K J t o => ∃ b45 c46, PP ((3, .ref 56 b45 c46 0 q26.length 66) :: K) ((56, ent b45 c46 66 (List.map ePt q26)) :: J) t o) ?_ ?_
 ·refine w_lpL (xs := a0) [0] [] 0 hf (fun K J l33 k31 t o => ∃ v28 b29 c30, gl_dq9_1 l33 k31 v28 = some q26 ∧ PP ((3, .ref 56 b29 c30 0 v28.length 66) :: (4, .v (.int .i64 (k31 : Int))) :: K) ((56, ent b29 c30 66 (List.map ePt v28)) :: J) t o) ?_ ?_ ?_
  ·exact ⟨_, _, _, hq, pin, pinh⟩
  ·rintro k31 t o hlt ⟨v28, b29, c30, h, pq⟩
   refine pn pq ?_
   rw [gl_dq9_1] at h
   exact cls
  rintro x32 l33 k31 t o hlt hx37 hw hd ⟨v28, b29, c30, h, pq⟩
  refine pn pq ?_
  rw [gl_dq9_1] at h
  refine gx fun x40 h41 x42 h43 => ?_; intros; rename_i h
  refine c_ste (f := ePt) v28 x40 (idx_get h43).2 ?_
  exact cls
 rintro t o ⟨b45, c46, pq⟩
 refine pnq pq ?_
 exact cls
theorem d_dt9 : OkC [] c_dt9 if_dt9 ks_dt9 := by
 refine ok fun G H a0 r h => ?_
 refine st1 fun bs t o => ?_
 dsimp only [gf_dt9] at h
 exact cls
theorem d_ds9 : OkC [c_dq9] c_ds9 if_ds9 ks_ds9 := by
 refine ok fun G H a0 r h => ?_
 refine st1 fun bs t o => ?_
 dsimp only [gf_ds9] at h
 exact cls
theorem d_du9 : OkC [c_dt9] c_du9 if_du9 ks_du9 := by
 refine ok fun G H a0 r h => ?_
 refine st1 fun bs t o => ?_
 dsimp only [gf_du9] at h
 refine gx fun h3 => ?_; intros; rename_i h
 obtain ⟨hf, h⟩ := gd h
 obtain ⟨q26, hq, h⟩ := bnd h
 refine w_lastK [] [] (fun K J t o => ∃ b45 c46, PP ((3, .ref 56 b45 c46 0 q26.length 82) :: K) ((56, ent b45 c46 82 (List.map eTag q26)) :: J) t o) ?_ ?_
 ·refine w_lpL (xs := a0) [0] [] 0 hf (fun K J l33 k31 t o => ∃ v28 b29 c30, gl_du9_1 l33 k31 v28 = some q26 ∧ PP ((3, .ref 56 b29 c30 0 v28.length 82) :: (4, .v (.int .i64 (k31 : Int))) :: K) ((56, ent b29 c30 82 (List.map eTag v28)) :: J) t o) ?_ ?_ ?_
  ·exact ⟨_, _, _, hq, pin, pinh⟩
  ·rintro k31 t o hlt ⟨v28, b29, c30, h, pq⟩
   refine pn pq ?_
   rw [gl_du9_1] at h
   exact cls
  rintro x32 l33 k31 t o hlt hx37 hw hd ⟨v28, b29, c30, h, pq⟩
  refine pn pq ?_
  rw [gl_du9_1] at h
  refine gx fun x40 h41 x42 h43 => ?_; intros; rename_i h
  refine c_ste (f := eTag) v28 x40 (idx_get h43).2 ?_
  exact cls
 rintro t o ⟨b45, c46, pq⟩
 refine pnq pq ?_
 exact cls
theorem d_dk9 : OkC [c_ds9, c_du9] c_dk9 if_dk9 ks_dk9 := by
 refine ok fun G H a0 r h => ?_
 refine st1 fun bs t o => ?_
 dsimp only [gf_dk9] at h
 try (refine gx ?_; intros; rename_i h)
 obtain ⟨q4, hq, h⟩ := bnd h
 refine w_cutK [1, 2] [8, 1000258, 1000259, 16] (fun K J t o => ∃ b10 c11 b13, PP ((3, .ptr 24 b13 100 0 0) :: K) ((1000386, ent b10 c11 66 (List.map ePt q4.1)) :: (1000387, ent none 0 82 (List.map eTag [])) :: (24, ⟨b13, 1, 100, true, [[.v (.string a0.id), .v (.int .i64 q4.2), .al 1000386 b10 c11 0 q4.1.length 66, .al 1000387 none 0 0 ([] : List Tag).length 82]]⟩) :: J) t o) ?_ ?_
 ·have h := hq
  exact cls
 rintro t o ⟨b10, c11, b13, pq⟩
 refine pn pq ?_
 exact cls
theorem d_do9 : OkC [] c_do9 if_do9 ks_do9 := by
 refine ok fun G H a0 r h => ?_
 refine st1 fun bs t o => ?_
 dsimp only [gf_do9] at h
 refine gx fun h3 => ?_; intros; rename_i h
 obtain ⟨hf, h⟩ := gd h
 obtain ⟨q20, hq, h⟩ := bnd h
 refine w_lastK [] [] (fun K J t o => ∃ b37 c38, PP ((3, .ref 56 b37 c38 0 q20.length 17) :: K) ((56, ent b37 c38 17 (List.map eInt q20)) :: J) t o) ?_ ?_
 ·refine w_lpL (xs := a0) [0] [] 0 hf (fun K J l27 k25 t o => ∃ v22 b23 c24, gl_do9_1 l27 k25 v22 = some q20 ∧ PP ((3, .ref 56 b23 c24 0 v22.length 17) :: (4, .v (.int .i64 (k25 : Int))) :: K) ((56, ent b23 c24 17 (List.map eInt v22)) :: J) t o) ?_ ?_ ?_
  ·exact ⟨_, _, _, hq, pin, pinh⟩
  ·rintro k25 t o hlt ⟨v22, b23, c24, h, pq⟩
   refine pn pq ?_
   rw [gl_do9_1] at h
   exact cls
  rintro x26 l27 k25 t o hlt hx31 hw hd ⟨v22, b23, c24, h, pq⟩
  refine pn pq ?_
  rw [gl_do9_1] at h
  refine gx fun x34 h35 => ?_; intros; rename_i h
  refine c_ste (f := eInt) v22 x26 (idx_get h35).2 ?_
  exact cls
 rintro t o ⟨b37, c38, pq⟩
 refine pnq pq ?_
 exact cls
theorem d_dl9 : OkC [c_dk9] c_dl9 if_dl9 ks_dl9 := by
 refine ok fun G H a0 r h => ?_
 refine st1 fun bs t o => ?_
 dsimp only [gf_dl9] at h
 refine gx fun h3 => ?_; intros; rename_i h
 obtain ⟨hf, h⟩ := gd h
 obtain ⟨q38, hq, h⟩ := bnd h
 refine w_lastK [] [] (fun K J t o => ∃ b61 c62, PP ((3, .ref 56 b61 c62 0 q38.length 100) :: K) ((56, ent b61 c62 100 (List.map (eFeat true) q38)) :: J) t o) ?_ ?_
 ·refine w_lpL (xs := a0) [0] [] 0 hf (fun K J l45 k43 t o => ∃ v40 b41 c42, gl_dl9_1 l45 k43 v40 = some q38 ∧ PP ((3, .ref 56 b41 c42 0 v40.length 100) :: (4, .v (.int .i64 (k43 : Int))) :: K) ((56, ent b41 c42 100 (List.map (eFeat true) v40)) :: J) t o) ?_ ?_ ?_
  ·exact ⟨_, _, _, hq, pin, pinh⟩
  ·rintro k43 t o hlt ⟨v40, b41, c42, h, pq⟩
   refine pn pq ?_
   rw [gl_dl9_1] at h
   exact cls
  rintro x44 l45 k43 t o hlt hx49 hw hd ⟨v40, b41, c42, h, pq⟩
  refine pn pq ?_
  rw [gl_dl9_1] at h
  refine gx fun x52 h53 x58 h59 => ?_; intros; rename_i h
  refine c_ste (f := (eFeat true)) v40 x52 (idx_get h59).2 ?_
  exact cls
 rintro t o ⟨b61, c62, pq⟩
 refine pnq pq ?_
 exact cls
theorem d_di9 : OkC [c_do9, c_dl9] c_di9 if_di9 ks_di9 := by
 refine ok fun G H a0 r h => ?_
 refine st1 fun bs t o => ?_
 dsimp only [gf_di9] at h
 try (refine gx ?_; intros; rename_i h)
 obtain ⟨q4, hq, h⟩ := bnd h
 refine w_cutK [1, 2] [8, 1000256, 1000257, 16] (fun K J t o => ∃ b10 c11 b12, PP ((3, .ptr 24 b12 115 0 0) :: K) ((1000384, ent b10 c11 17 (List.map eInt q4)) :: (1000385, ent none 0 100 (List.map (eFeat true) [])) :: (24, ⟨b12, 1, 115, true, [[.al 1000384 b10 c11 0 q4.length 17, .al 1000385 none 0 0 ([] : List Feat).length 100, .v (.string (⟨#[]⟩ : Str))]]⟩) :: J) t o) ?_ ?_
 ·have h := hq
  exact cls
 rintro t o ⟨b10, c11, b12, pq⟩
 refine pn pq ?_
 exact cls
theorem d_dm9 : OkC [] c_dm9 if_dm9 ks_dm9 := by
 refine ok fun G H a0 r h => ?_
 refine st1 fun bs t o => ?_
 dsimp only [gf_dm9] at h
 exact cls
theorem d_dj9 : OkC [c_di9] c_dj9 if_dj9 ks_dj9 := by
 refine ok fun G H a0 r h => ?_
 refine st1 fun bs t o => ?_
 dsimp only [gf_dj9] at h
 refine gx fun h3 => ?_; intros; rename_i h
 obtain ⟨hf, h⟩ := gd h
 obtain ⟨q38, hq, h⟩ := bnd h
 refine w_lastK [] [] (fun K J t o => ∃ b61 c62, PP ((3, .ref 56 b61 c62 0 q38.length 115) :: K) ((56, ent b61 c62 115 (List.map (eCommit true) q38)) :: J) t o) ?_ ?_
 ·refine w_lpL (xs := a0) [0] [] 0 hf (fun K J l45 k43 t o => ∃ v40 b41 c42, gl_dj9_1 l45 k43 v40 = some q38 ∧ PP ((3, .ref 56 b41 c42 0 v40.length 115) :: (4, .v (.int .i64 (k43 : Int))) :: K) ((56, ent b41 c42 115 (List.map (eCommit true) v40)) :: J) t o) ?_ ?_ ?_
  ·exact ⟨_, _, _, hq, pin, pinh⟩
  ·rintro k43 t o hlt ⟨v40, b41, c42, h, pq⟩
   refine pn pq ?_
   rw [gl_dj9_1] at h
   exact cls
  rintro x44 l45 k43 t o hlt hx49 hw hd ⟨v40, b41, c42, h, pq⟩
  refine pn pq ?_
  rw [gl_dj9_1] at h
  refine gx fun x52 h53 x58 h59 => ?_; intros; rename_i h
  refine c_ste (f := (eCommit true)) v40 x52 (idx_get h59).2 ?_
  exact cls
 rintro t o ⟨b61, c62, pq⟩
 refine pnq pq ?_
 exact cls
theorem d_dn9 : OkC [c_dm9] c_dn9 if_dn9 ks_dn9 := by
 refine ok fun G H a0 r h => ?_
 refine st1 fun bs t o => ?_
 dsimp only [gf_dn9] at h
 refine gx fun h3 => ?_; intros; rename_i h
 obtain ⟨hf, h⟩ := gd h
 obtain ⟨q26, hq, h⟩ := bnd h
 refine w_lastK [] [] (fun K J t o => ∃ b45 c46, PP ((3, .ref 56 b45 c46 0 q26.length 130) :: K) ((56, ent b45 c46 130 (List.map eHead q26)) :: J) t o) ?_ ?_
 ·refine w_lpL (xs := a0) [0] [] 0 hf (fun K J l33 k31 t o => ∃ v28 b29 c30, gl_dn9_1 l33 k31 v28 = some q26 ∧ PP ((3, .ref 56 b29 c30 0 v28.length 130) :: (4, .v (.int .i64 (k31 : Int))) :: K) ((56, ent b29 c30 130 (List.map eHead v28)) :: J) t o) ?_ ?_ ?_
  ·exact ⟨_, _, _, hq, pin, pinh⟩
  ·rintro k31 t o hlt ⟨v28, b29, c30, h, pq⟩
   refine pn pq ?_
   rw [gl_dn9_1] at h
   exact cls
  rintro x32 l33 k31 t o hlt hx37 hw hd ⟨v28, b29, c30, h, pq⟩
  refine pn pq ?_
  rw [gl_dn9_1] at h
  refine gx fun x40 h41 x42 h43 => ?_; intros; rename_i h
  refine c_ste (f := eHead) v28 x40 (idx_get h43).2 ?_
  exact cls
 rintro t o ⟨b45, c46, pq⟩
 refine pnq pq ?_
 exact cls
theorem d_bs9 : OkC [] c_bs9 if_bs9 ks_bs9 := by
 refine ok fun G H ⟨a0, a1, a2⟩ r h => ?_
 refine st1 fun bs t o => ?_
 dsimp only [gf_bs9] at h
 exact cls
theorem d_bm9 : OkC [c_bs9] c_bm9 if_bm9 ks_bm9 := by
 refine ok fun G H a0 r h => ?_
 refine st1 fun bs t o => ?_
 dsimp only [gf_bm9] at h
 exact cls
theorem d_ay9 : OkC [c_bs9] c_ay9 if_ay9 ks_ay9 := by
 refine ok fun G H a0 r h => ?_
 refine st1 fun bs t o => ?_
 dsimp only [gf_ay9] at h
 try (refine gx ?_; intros; rename_i h)
 obtain ⟨hf, h⟩ := gd h
 obtain ⟨q8, hq, h⟩ := bnd h
 refine w_lastK [0] [] (fun K J t o => ∃ q8_, q8 = .inr q8_ ∧ PP K J t o) ?_ ?_
 ·have ho1 := h
  refine w_lpB (xs := a0) [0, 5] [] 0 hf (fun K J l12 k10 t o => gl_ay9_1 l12 k10  = some q8 ∧ PP ((6, .v (.int .i64 (k10 : Int))) :: K) J t o) ?_ ?_ ?_
  ·exact ⟨hq, pin, pinh⟩
  ·rintro k10 t o hlt ⟨h, pq⟩
   refine pn pq ?_
   rw [gl_ay9_1] at h
   exact cls
  rintro x11 l12 k10 t o hlt hx16 hw hd ⟨h, pq⟩
  refine pn pq ?_
  rw [gl_ay9_1] at h
  exact cls
 rintro t o ⟨q8, rfl, pq⟩
 refine pnq pq ?_
 exact cls
theorem d_at9 : OkC [c_bm9, c_bs9] c_at9 if_at9 ks_at9 := by
 refine ok fun G H a0 r h => ?_
 refine st1 fun bs t o => ?_
 dsimp only [gf_at9] at h
 try (refine gx ?_; intros; rename_i h)
 obtain ⟨hf, h⟩ := gd h
 obtain ⟨q22, hq, h⟩ := bnd h
 refine w_lastK [1] [8] (fun K J t o => ∃ q22_, q22 = .inr q22_ ∧ PP K J t o) ?_ ?_
 ·have ho1 := h
  refine w_lpL (xs := a0.pts) [1, 7, 8] [8] 0 hf (fun K J l26 k24 t o => gl_at9_1 a0 l26 k24  = some q22 ∧ PP ((9, .v (.int .i64 (k24 : Int))) :: K) J t o) ?_ ?_ ?_
  ·exact ⟨hq, pin, pinh⟩
  ·rintro k24 t o hlt ⟨h, pq⟩
   refine pn pq ?_
   rw [gl_at9_1] at h
   exact cls
  rintro x25 l26 k24 t o hlt hx30 hw hd ⟨h, pq⟩
  refine pn pq ?_
  rw [gl_at9_1] at h
  exact cls
 rintro t o ⟨q22, rfl, pq⟩
 refine pnq pq ?_
 exact cls
theorem d_ac9 : OkC [c_ay9, c_at9] c_ac9 if_ac9 ks_ac9 := by
 refine ok fun G H a0 r h => ?_
 refine st1 fun bs t o => ?_
 dsimp only [gf_ac9] at h
 try (refine gx ?_; intros; rename_i h)
 obtain ⟨hf, h⟩ := gd h
 obtain ⟨q28, hq, h⟩ := bnd h
 refine w_lastK [1] [8] (fun K J t o => ∃ q28_, q28 = .inr q28_ ∧ PP K J t o) ?_ ?_
 ·have ho1 := h
  refine w_lpL (xs := a0.tags) [1, 6, 7] [8] 0 hf (fun K J l32 k30 t o => gl_ac9_1 a0 l32 k30  = some q28 ∧ PP ((8, .v (.int .i64 (k30 : Int))) :: K) J t o) ?_ ?_ ?_
  ·exact ⟨hq, pin, pinh⟩
  ·rintro k30 t o hlt ⟨h, pq⟩
   refine pn pq ?_
   rw [gl_ac9_1] at h
   exact cls
  rintro x31 l32 k30 t o hlt hx36 hw hd ⟨h, pq⟩
  refine pn pq ?_
  rw [gl_ac9_1] at h
  exact cls
 rintro t o ⟨q28, rfl, pq⟩
 refine pnq pq ?_
 exact cls
theorem d_ec9 : OkC [] c_ec9 if_ec9 ks_ec9 := by
 refine ok fun G H ⟨a0, a1⟩ r h => ?_
 refine st1 fun bs t o => ?_
 dsimp only [gf_ec9] at h
 try (refine gx ?_; intros; rename_i h)
 obtain ⟨hf, h⟩ := gd h
 obtain ⟨q14, hq, h⟩ := bnd h
 refine w_lastK [] [] (fun K J t o => ∃ q14_, q14 = .inr q14_ ∧ PP K J t o) ?_ ?_
 ·have ho1 := h
  refine w_lpL (xs := a0) [0, 1, 12] [] 0 hf (fun K J l18 k16 t o => gl_ec9_1 a1 l18 k16  = some q14 ∧ PP ((13, .v (.int .i64 (k16 : Int))) :: K) J t o) ?_ ?_ ?_
  ·exact ⟨hq, pin, pinh⟩
  ·rintro k16 t o hlt ⟨h, pq⟩
   refine pn pq ?_
   rw [gl_ec9_1] at h
   exact cls
  rintro x17 l18 k16 t o hlt hx22 hw hd ⟨h, pq⟩
  refine pn pq ?_
  rw [gl_ec9_1] at h
  exact cls
 rintro t o ⟨q14, rfl, pq⟩
 refine pnq pq ?_
 exact cls
theorem d_au9 : OkC [c_ec9] c_au9 if_au9 ks_au9 := by
 refine ok fun G H ⟨a0, a1⟩ r h => ?_
 refine st1 fun bs t o => ?_
 dsimp only [gf_au9] at h
 exact cls
theorem d_ed9 : OkC [] c_ed9 if_ed9 ks_ed9 := by
 refine ok fun G H ⟨a0, a1⟩ r h => ?_
 refine st1 fun bs t o => ?_
 dsimp only [gf_ed9] at h
 try (refine gx ?_; intros; rename_i h)
 obtain ⟨hf, h⟩ := gd h
 obtain ⟨q14, hq, h⟩ := bnd h
 refine w_lastK [] [] (fun K J t o => ∃ q14_, q14 = .inr q14_ ∧ PP K J t o) ?_ ?_
 ·have ho1 := h
  refine w_lpL (xs := a0) [0, 1, 12] [] 0 hf (fun K J l18 k16 t o => gl_ed9_1 a1 l18 k16  = some q14 ∧ PP ((13, .v (.int .i64 (k16 : Int))) :: K) J t o) ?_ ?_ ?_
  ·exact ⟨hq, pin, pinh⟩
  ·rintro k16 t o hlt ⟨h, pq⟩
   refine pn pq ?_
   rw [gl_ed9_1] at h
   exact cls
  rintro x17 l18 k16 t o hlt hx22 hw hd ⟨h, pq⟩
  refine pn pq ?_
  rw [gl_ed9_1] at h
  exact cls
 rintro t o ⟨q14, rfl, pq⟩
 refine pnq pq ?_
 exact cls
theorem d_ad9 : OkC [c_au9, c_ed9] c_ad9 if_ad9 ks_ad9 := by
 refine ok fun G H ⟨a0, a1⟩ r h => ?_
 refine st1 fun bs t o => ?_
 dsimp only [gf_ad9] at h
 exact cls
theorem d_eb9 : OkC [c_ad9] c_eb9 if_ea9 ks_ea9 := by
 refine ok fun G H ⟨a0, a1⟩ r h => ?_
 have H_ad9 := H _ (.head _)
 replace H := hpre 0 H
 refine st1 fun bs t o => ?_
 dsimp only [gf_eb9] at h
 try (refine gx ?_; intros; rename_i h)
 obtain ⟨hf, h⟩ := gd h
 obtain ⟨q26, hq, h⟩ := bnd h
 refine w_lastK [] [] (fun K J t o => ∃ q26_, q26 = .inr q26_ ∧ PP K J t o) ?_ ?_
 ·have ho1 := h
  refine w_lpL (xs := a0) [1, 2, 15, 16] [] 0 hf (fun K J l30 k28 t o => gl_eb9_1 a1 l30 k28  = some q26 ∧ PP ((17, .v (.int .i64 (k28 : Int))) :: K) J t o) ?_ ?_ ?_
  ·exact ⟨hq, pin, pinh⟩
  ·rintro k28 t o hlt ⟨h, pq⟩
   refine pn pq ?_
   rw [gl_eb9_1] at h
   exact cls
  rintro x29 l30 k28 t o hlt hx34 hw hd ⟨h, pq⟩
  refine pn pq ?_
  rw [gl_eb9_1] at h
  refine gx fun x38 h39 => ?_; intros; rename_i h
  obtain ⟨x41, h42, h⟩ := bnd h
  refine c_calld (c := c_ad9) (x29, x38) H_ad9 h42 fun ch => ?_
  exact cls
 rintro t o ⟨q26, rfl, pq⟩
 refine pnq pq ?_
 exact cls
theorem d_ax9 : OkC [c_eb9] c_ax9 if_ax9 ks_ax9 := by
 refine ok fun G H ⟨a0, a1⟩ r h => ?_
 refine st1 fun bs t o => ?_
 dsimp only [gf_ax9] at h
 exact cls
theorem d_ee9 : OkC [] c_ee9 if_ee9 ks_ee9 := by
 refine ok fun G H ⟨a0, a1⟩ r h => ?_
 refine st1 fun bs t o => ?_
 dsimp only [gf_ee9] at h
 try (refine gx ?_; intros; rename_i h)
 obtain ⟨hf, h⟩ := gd h
 obtain ⟨q14, hq, h⟩ := bnd h
 refine w_lastK [] [] (fun K J t o => ∃ q14_, q14 = .inr q14_ ∧ PP K J t o) ?_ ?_
 ·have ho1 := h
  refine w_lpL (xs := a0) [0, 1, 12] [] 0 hf (fun K J l18 k16 t o => gl_ee9_1 a1 l18 k16  = some q14 ∧ PP ((13, .v (.int .i64 (k16 : Int))) :: K) J t o) ?_ ?_ ?_
  ·exact ⟨hq, pin, pinh⟩
  ·rintro k16 t o hlt ⟨h, pq⟩
   refine pn pq ?_
   rw [gl_ee9_1] at h
   exact cls
  rintro x17 l18 k16 t o hlt hx22 hw hd ⟨h, pq⟩
  refine pn pq ?_
  rw [gl_ee9_1] at h
  exact cls
 rintro t o ⟨q14, rfl, pq⟩
 refine pnq pq ?_
 exact cls
theorem d_bn9 : OkC [c_ee9, c_ax9] c_bn9 if_bn9 ks_bn9 := by
 refine ok fun G H ⟨a0, a1⟩ r h => ?_
 refine st1 fun bs t o => ?_
 dsimp only [gf_bn9] at h
 exact cls
theorem d_eq9 : OkC [] c_eq9 if_eq9 ks_eq9 := by
 refine ok fun G H ⟨a0, a1⟩ r h => ?_
 refine st1 fun bs t o => ?_
 dsimp only [gf_eq9] at h
 try (refine gx ?_; intros; rename_i h)
 obtain ⟨hf, h⟩ := gd h
 obtain ⟨q8, hq, h⟩ := bnd h
 refine w_lastK [] [] (fun K J t o => ∃ q8_, q8 = .inr q8_ ∧ PP K J t o) ?_ ?_
 ·have ho1 := h
  refine w_lpL (xs := a0) [0, 1, 7] [] 0 hf (fun K J l12 k10 t o => gl_eq9_1 a1 l12 k10  = some q8 ∧ PP ((8, .v (.int .i64 (k10 : Int))) :: K) J t o) ?_ ?_ ?_
  ·exact ⟨hq, pin, pinh⟩
  ·rintro k10 t o hlt ⟨h, pq⟩
   refine pn pq ?_
   rw [gl_eq9_1] at h
   exact cls
  rintro x11 l12 k10 t o hlt hx16 hw hd ⟨h, pq⟩
  refine pn pq ?_
  rw [gl_eq9_1] at h
  exact cls
 rintro t o ⟨q8, rfl, pq⟩
 refine pnq pq ?_
 exact cls
theorem d_aw9 : OkC [c_ac9] c_aw9 if_aw9 ks_aw9 := by
 refine ok fun G H a0 r h => ?_
 refine st1 fun bs t o => ?_
 dsimp only [gf_aw9] at h
 try (refine gx ?_; intros; rename_i h)
 obtain ⟨hf, h⟩ := gd h
 obtain ⟨q21, hq, h⟩ := bnd h
 refine w_lastK [0] [] (fun K J t o => ∃ q21_, q21 = .inr q21_ ∧ PP K J t o) ?_ ?_
 ·have ho1 := h
  refine w_lpL (xs := a0) [0, 5, 6] [] 0 hf (fun K J l25 k23 t o => gl_aw9_1 a0 l25 k23  = some q21 ∧ PP ((7, .v (.int .i64 (k23 : Int))) :: K) J t o) ?_ ?_ ?_
  ·exact ⟨hq, pin, pinh⟩
  ·rintro k23 t o hlt ⟨h, pq⟩
   refine pn pq ?_
   rw [gl_aw9_1] at h
   exact cls
  rintro x24 l25 k23 t o hlt hx29 hw hd ⟨h, pq⟩
  refine pn pq ?_
  rw [gl_aw9_1] at h
  exact cls
 rintro t o ⟨q21, rfl, pq⟩
 refine pnq pq ?_
 exact cls
theorem d_am9 : OkC [c_bn9] c_am9 if_am9 ks_am9 := by
 refine ok fun G H ⟨a0, a1⟩ r h => ?_
 refine st1 fun bs t o => ?_
 dsimp only [gf_am9] at h
 exact cls
theorem d_eh9 : OkC [c_am9] c_eh9 if_eg9 ks_eg9 := by
 refine ok fun G H ⟨a0, a1⟩ r h => ?_
 have H_am9 := H _ (.head _)
 replace H := hpre 0 H
 refine st1 fun bs t o => ?_
 dsimp only [gf_eh9] at h
 try (refine gx ?_; intros; rename_i h)
 obtain ⟨hf, h⟩ := gd h
 obtain ⟨q14, hq, h⟩ := bnd h
 refine w_lastK [] [] (fun K J t o => ∃ q14_, q14 = .inr q14_ ∧ PP K J t o) ?_ ?_
 ·have ho1 := h
  refine w_lpL (xs := a0) [0, 1, 7] [] 0 hf (fun K J l18 k16 t o => gl_eh9_1 a1 l18 k16  = some q14 ∧ PP ((8, .v (.int .i64 (k16 : Int))) :: K) J t o) ?_ ?_ ?_
  ·exact ⟨hq, pin, pinh⟩
  ·rintro k16 t o hlt ⟨h, pq⟩
   refine pn pq ?_
   rw [gl_eh9_1] at h
   exact cls
  rintro x17 l18 k16 t o hlt hx22 hw hd ⟨h, pq⟩
  refine pn pq ?_
  rw [gl_eh9_1] at h
  try (refine gx ?_; intros; rename_i h)
  obtain ⟨x25, h26, h⟩ := bnd h
  refine c_calld (c := c_am9) (x17, a1) H_am9 h26 fun ch => ?_
  exact cls
 rintro t o ⟨q14, rfl, pq⟩
 refine pnq pq ?_
 exact cls
theorem d_al9 : OkC [c_eh9] c_al9 if_al9 ks_al9 := by
 refine ok fun G H ⟨a0, a1⟩ r h => ?_
 refine st1 fun bs t o => ?_
 dsimp only [gf_al9] at h
 exact cls
theorem d_dz9 : OkC [c_eq9] c_dz9 if_dz9 ks_dz9 := by
 refine ok fun G H ⟨a0, a1⟩ r h => ?_
 refine st1 fun bs t o => ?_
 dsimp only [gf_dz9] at h
 exact cls
theorem d_ao9 : OkC [] c_ao9 if_ao9 ks_ao9 := by
 refine ok fun G H ⟨a0, a1⟩ r h => ?_
 refine st1 fun bs t o => ?_
 dsimp only [gf_ao9] at h
 exact cls
theorem d_el9 : OkC [c_ao9] c_el9 if_ek9 ks_ek9 := by
 refine ok fun G H ⟨a0, a1⟩ r h => ?_
 have H_ao9 := H _ (.head _)
 replace H := hpre 0 H
 refine st1 fun bs t o => ?_
 dsimp only [gf_el9] at h
 try (refine gx ?_; intros; rename_i h)
 obtain ⟨hf, h⟩ := gd h
 obtain ⟨q14, hq, h⟩ := bnd h
 refine w_lastK [] [] (fun K J t o => ∃ q14_, q14 = .inr q14_ ∧ PP K J t o) ?_ ?_
 ·have ho1 := h
  refine w_lpL (xs := a0) [0, 1, 7] [] 0 hf (fun K J l18 k16 t o => gl_el9_1 a1 l18 k16  = some q14 ∧ PP ((8, .v (.int .i64 (k16 : Int))) :: K) J t o) ?_ ?_ ?_
  ·exact ⟨hq, pin, pinh⟩
  ·rintro k16 t o hlt ⟨h, pq⟩
   refine pn pq ?_
   rw [gl_el9_1] at h
   exact cls
  rintro x17 l18 k16 t o hlt hx22 hw hd ⟨h, pq⟩
  refine pn pq ?_
  rw [gl_el9_1] at h
  try (refine gx ?_; intros; rename_i h)
  obtain ⟨x25, h26, h⟩ := bnd h
  refine c_calld (c := c_ao9) (x17, a1) H_ao9 h26 fun ch => ?_
  exact cls
 rintro t o ⟨q14, rfl, pq⟩
 refine pnq pq ?_
 exact cls
theorem d_an9 : OkC [c_el9] c_an9 if_an9 ks_an9 := by
 refine ok fun G H ⟨a0, a1⟩ r h => ?_
 refine st1 fun bs t o => ?_
 dsimp only [gf_an9] at h
 exact cls
theorem d_aq9 : OkC [c_bs9] c_aq9 if_aq9 ks_aq9 := by
 refine ok fun G H ⟨a0, a1⟩ r h => ?_
 refine st1 fun bs t o => ?_
 dsimp only [gf_aq9] at h
 exact cls
theorem d_ba9 : OkC [] c_ba9 if_ba9 ks_ba9 := by
 refine ok fun G H a0 r h => ?_
 refine st1 fun bs t o => ?_
 dsimp only [gf_ba9] at h
 exact cls
theorem d_az9 : OkC [c_ba9] c_az9 if_az9 ks_az9 := by
 refine ok fun G H a0 r h => ?_
 refine st1 fun bs t o => ?_
 dsimp only [gf_az9] at h
 exact cls
end Go.Proofs.AM
