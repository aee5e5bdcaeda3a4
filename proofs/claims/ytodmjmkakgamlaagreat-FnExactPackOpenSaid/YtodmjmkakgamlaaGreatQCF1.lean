/- Lemmas of the proof (QCF1), on an abstract machine. Conditions: none. -/
import Derived.Test.YtodmjmkakgamlaaGreatQCD
set_option linter.unusedVariables false
set_option maxRecDepth 100000
set_option maxHeartbeats 4000000
namespace Go.Proofs.AM
attribute [local irreducible] vwp vstps vstpLs vstp vdo vret kseq kblk kloop kend kcut kloop2 frzV renV shutK pfzV trnV unrV
theorem d_es9 : OkC [c_eo9] c_es9 if_es9 ks_es9 := by
 refine ok fun G H a0 r h => ?_
 refine st1 fun bs t o => ?_
 dsimp only [gf_es9] at h
 exact cls
theorem d_ev9 : OkC [c_es9] c_ev9 if_ev9 ks_ev9 := by
 refine ok fun G H a0 r h => ?_
 refine st1 fun bs t o => ?_
 dsimp only [gf_ev9] at h
 try (refine gx ?_; intros; rename_i h)
 obtain ⟨hf, h⟩ := gd h
 obtain ⟨q42, hq, h⟩ := bnd h
 refine w_lastK [] [] (fun K J t o => ∃ b67 c68, PP ((3, .ref 40 b67 c68 0 q42.length 100) :: K) ((40, ent b67 c68 100 (List.map (eFeat true) q42)) :: J) t o) ?_ ?_
 ·refine w_lpL (xs := a0) [0] [] 0 hf (fun K J l49 k47 t o => ∃ v44 b45 c46, gl_ev9_1 l49 k47 v44 = some q42 ∧ PP ((3, .ref 40 b45 c46 0 v44.length 100) :: (4, .v (.int .i64 (k47 : Int))) :: K) ((40, ent b45 c46 100 (List.map (eFeat true) v44)) :: J) t o) ?_ ?_ ?_
  ·exact ⟨_, _, _, hq, pin, pinh⟩
  ·rintro k47 t o hlt ⟨v44, b45, c46, h, pq⟩
   refine pn pq ?_
   rw [gl_ev9_1] at h
   exact cls
  rintro x48 l49 k47 t o hlt hx53 hw hd ⟨v44, b45, c46, h, pq⟩
  refine pn pq ?_
  rw [gl_ev9_1] at h
  exact cls
 rintro t o ⟨b67, c68, pq⟩
 refine pnq pq ?_
 exact cls
theorem d_ei9 : OkC [c_fg9, c_el9, c_en9, c_fc9, c_fd9] c_ei9 if_ei9 ks_ei9 := by
 refine ok fun G H a0 r h => ?_
 refine st1 fun bs t o => ?_
 dsimp only [gf_ei9] at h
 try (refine gx ?_; intros; rename_i h)
 obtain ⟨hf, h⟩ := gd h
 obtain ⟨q36, hq, h⟩ := bnd h
 refine w_lastK [1] [8] (fun K J t o => ∃ q36_, q36 = .inr q36_ ∧ PP K J t o) ?_ ?_
 ·have ho1 := h
  refine w_lpL (xs := a0.commits) [1] [8] 0 hf (fun K J l40 k38 t o => gl_ei9_1 a0 l40 k38  = some q36 ∧ PP ((3, .v (.int .i64 (k38 : Int))) :: K) J t o) ?_ ?_ ?_
  ·exact ⟨hq, pin, pinh⟩
  ·rintro k38 t o hlt ⟨h, pq⟩
   refine pn pq ?_
   rw [gl_ei9_1] at h
   exact cls
  rintro x39 l40 k38 t o hlt hx44 hw hd ⟨h, pq⟩
  refine pn pq ?_
  rw [gl_ei9_1] at h
  exact cls
 rintro t o ⟨q36, rfl, pq⟩
 refine pnq pq ?_
 try (refine gx ?_; intros; rename_i h)
 obtain ⟨hf, h⟩ := gd h
 obtain ⟨q78, hq, h⟩ := bnd h
 refine w_lastK [] [] (fun K J t o => ∃ q78_, q78 = .inr q78_ ∧ PP K J t o) ?_ ?_
 ·have ho1 := h
  refine w_lpL (xs := a0.heads) [1] [8] 0 hf (fun K J l82 k80 t o => gl_ei9_2 a0 l82 k80  = some q78 ∧ PP ((5, .v (.int .i64 (k80 : Int))) :: K) J t o) ?_ ?_ ?_
  ·exact ⟨hq, pin, pinh⟩
  ·rintro k80 t o hlt ⟨h, pq⟩
   refine pn pq ?_
   rw [gl_ei9_2] at h
   exact cls
  rintro x81 l82 k80 t o hlt hx86 hw hd ⟨h, pq⟩
  refine pn pq ?_
  rw [gl_ei9_2] at h
  exact cls
 rintro t o ⟨q78, rfl, pq⟩
 refine pnq pq ?_
 exact cls
theorem d_ey9 : OkC [] c_ey9 if_ey9 ks_ey9 := by
 refine ok fun G H ⟨a0, a1⟩ r h => ?_
 refine st1 fun bs t o => ?_
 dsimp only [gf_ey9] at h
 try (refine gx ?_; intros; rename_i h)
 obtain ⟨hf, h⟩ := gd h
 obtain ⟨q81, hq, h⟩ := bnd h
 refine w_lastK [3] [24] (fun K J t o => ∃ b115 c116, PP ((5, .ref 64 b115 c116 0 q81.2.length 100) :: (6, .v (.bool q81.1)) :: K) ((64, ent b115 c116 100 (List.map (eFeat false) q81.2)) :: J) t o) ?_ ?_
 ·refine w_lpL (xs := a0) [0, 3] [24] 0 hf (fun K J l89 k87 t o => ∃ v82 v84 b85 c86, gl_ey9_1 a1 l89 k87 v82 v84 = some q81 ∧ PP ((5, .ref 64 b85 c86 0 v84.length 100) :: (6, .v (.bool v82)) :: (7, .v (.int .i64 (k87 : Int))) :: K) ((64, ent b85 c86 100 (List.map (eFeat false) v84)) :: J) t o) ?_ ?_ ?_
  ·exact ⟨_, _, _, _, hq, pin, pinh⟩
  ·rintro k87 t o hlt ⟨v82, v84, b85, c86, h, pq⟩
   refine pn pq ?_
   rw [gl_ey9_1] at h
   exact cls
  rintro x88 l89 k87 t o hlt hx93 hw hd ⟨v82, v84, b85, c86, h, pq⟩
  refine pn pq ?_
  rw [gl_ey9_1] at h
  try (refine gx ?_; intros; rename_i h)
  obtain ⟨q100, hq, h⟩ := bnd h
  refine w_cutK [0, 3, 7] [24] (fun K J t o => ∃ b107 c108, PP ((5, .ref 64 b107 c108 0 q100.2.length 100) :: (6, .v (.bool q100.1)) :: K) ((64, ent b107 c108 100 (List.map (eFeat false) q100.2)) :: J) t o) ?_ ?_
  ·have h := hq
   exact cls
  rintro t o ⟨b107, c108, pq⟩
  refine pn pq ?_
  exact cls
 rintro t o ⟨b115, c116, pq⟩
 refine pnq pq ?_
 exact cls
theorem d_ex9 : OkC [] c_ex9 if_ex9 ks_ex9 := by
 refine ok fun G H ⟨a0, a1⟩ r h => ?_
 refine st1 fun bs t o => ?_
 dsimp only [gf_ex9] at h
 try (refine gx ?_; intros; rename_i h)
 obtain ⟨hf, h⟩ := gd h
 obtain ⟨q8, hq, h⟩ := bnd h
 refine w_lastK [] [] (fun K J t o => ∃ q8_, q8 = .inr q8_ ∧ PP K J t o) ?_ ?_
 ·have ho1 := h
  refine w_lpL (xs := a0) [0, 1] [] 0 hf (fun K J l12 k10 t o => gl_ex9_1 a1 l12 k10  = some q8 ∧ PP ((5, .v (.int .i64 (k10 : Int))) :: K) J t o) ?_ ?_ ?_
  ·exact ⟨hq, pin, pinh⟩
  ·rintro k10 t o hlt ⟨h, pq⟩
   refine pn pq ?_
   rw [gl_ex9_1] at h
   exact cls
  rintro x11 l12 k10 t o hlt hx16 hw hd ⟨h, pq⟩
  refine pn pq ?_
  rw [gl_ex9_1] at h
  exact cls
 rintro t o ⟨q8, rfl, pq⟩
 refine pnq pq ?_
 exact cls
theorem d_fb9 : OkC [c_ex9, c_es9] c_fb9 if_fb9 ks_fb9 := by
 refine ok fun G H ⟨a0, a1⟩ r h => ?_
 refine st1 fun bs t o => ?_
 dsimp only [gf_fb9] at h
 exact cls
theorem d_di9 : OkC [] c_di9 if_di9 ks_di9 := by
 refine ok fun G H a0 r h => ?_
 refine st1 fun bs t o => ?_
 dsimp only [gf_di9] at h
 exact cls
theorem d_dj9 : OkC [c_di9] c_dj9 if_dj9 ks_dj9 := by
 refine ok fun G H a0 r h => ?_
 refine st1 fun bs t o => ?_
 dsimp only [gf_dj9] at h
 refine gx fun h3 => ?_; intros; rename_i h
 obtain ⟨hf, h⟩ := gd h
 obtain ⟨q26, hq, h⟩ := bnd h
 refine w_lastK [] [] (fun K J t o => ∃ b45 c46, PP ((3, .ref 56 b45 c46 0 q26.length 66) :: K) ((56, ent b45 c46 66 (List.map ePt q26)) :: J) t o) ?_ ?_
 ·refine w_lpL (xs := a0) [0] [] 0 hf (fun K J l33 k31 t o => ∃ v28 b29 c30, gl_dj9_1 l33 k31 v28 = some q26 ∧ PP ((3, .ref 56 b29 c30 0 v28.length 66) :: (4, .v (.int .i64 (k31 : Int))) :: K) ((56, ent b29 c30 66 (List.map ePt v28)) :: J) t o) ?_ ?_ ?_
  ·exact ⟨_, _, _, hq, pin, pinh⟩
  ·rintro k31 t o hlt ⟨v28, b29, c30, h, pq⟩
   refine pn pq ?_
   rw [gl_dj9_1] at h
   exact cls
  rintro x32 l33 k31 t o hlt hx37 hw hd ⟨v28, b29, c30, h, pq⟩
  refine pn pq ?_
  rw [gl_dj9_1] at h
  refine gx fun x40 h41 x42 h43 => ?_; intros; rename_i h
  refine c_ste (f := ePt) v28 x40 (idx_get h43).2 ?_
  exact cls
 rintro t o ⟨b45, c46, pq⟩
 refine pnq pq ?_
 exact cls
theorem d_dl9 : OkC [] c_dl9 if_dl9 ks_dl9 := by
 refine ok fun G H a0 r h => ?_
 refine st1 fun bs t o => ?_
 dsimp only [gf_dl9] at h
 exact cls
theorem d_dk9 : OkC [c_dj9] c_dk9 if_dk9 ks_dk9 := by
 refine ok fun G H a0 r h => ?_
 refine st1 fun bs t o => ?_
 dsimp only [gf_dk9] at h
 exact cls
theorem d_dm9 : OkC [c_dl9] c_dm9 if_dm9 ks_dm9 := by
 refine ok fun G H a0 r h => ?_
 refine st1 fun bs t o => ?_
 dsimp only [gf_dm9] at h
 refine gx fun h3 => ?_; intros; rename_i h
 obtain ⟨hf, h⟩ := gd h
 obtain ⟨q26, hq, h⟩ := bnd h
 refine w_lastK [] [] (fun K J t o => ∃ b45 c46, PP ((3, .ref 56 b45 c46 0 q26.length 82) :: K) ((56, ent b45 c46 82 (List.map eTag q26)) :: J) t o) ?_ ?_
 ·refine w_lpL (xs := a0) [0] [] 0 hf (fun K J l33 k31 t o => ∃ v28 b29 c30, gl_dm9_1 l33 k31 v28 = some q26 ∧ PP ((3, .ref 56 b29 c30 0 v28.length 82) :: (4, .v (.int .i64 (k31 : Int))) :: K) ((56, ent b29 c30 82 (List.map eTag v28)) :: J) t o) ?_ ?_ ?_
  ·exact ⟨_, _, _, hq, pin, pinh⟩
  ·rintro k31 t o hlt ⟨v28, b29, c30, h, pq⟩
   refine pn pq ?_
   rw [gl_dm9_1] at h
   exact cls
  rintro x32 l33 k31 t o hlt hx37 hw hd ⟨v28, b29, c30, h, pq⟩
  refine pn pq ?_
  rw [gl_dm9_1] at h
  refine gx fun x40 h41 x42 h43 => ?_; intros; rename_i h
  refine c_ste (f := eTag) v28 x40 (idx_get h43).2 ?_
  exact cls
 rintro t o ⟨b45, c46, pq⟩
 refine pnq pq ?_
 exact cls
theorem d_de9 : OkC [c_dk9, c_dm9] c_de9 if_de9 ks_de9 := by
 refine ok fun G H a0 r h => ?_
 refine st1 fun bs t o => ?_
 dsimp only [gf_de9] at h
 try (refine gx ?_; intros; rename_i h)
 obtain ⟨q4, hq, h⟩ := bnd h
 refine w_cutK [1, 2] [8, 1000258, 1000259, 16] (fun K J t o => ∃ b10 c11 b13, PP ((3, .ptr 24 b13 100 0 0) :: K) ((1000386, ent b10 c11 66 (List.map ePt q4.1)) :: (1000387, ent none 0 82 (List.map eTag [])) :: (24, ⟨b13, 1, 100, true, [[.v (.string a0.id), .v (.int .i64 q4.2), .al 1000386 b10 c11 0 q4.1.length 66, .al 1000387 none 0 0 ([] : List Tag).length 82]]⟩) :: J) t o) ?_ ?_
 ·have h := hq
  exact cls
 rintro t o ⟨b10, c11, b13, pq⟩
 refine pn pq ?_
 exact cls
theorem d_dh9 : OkC [] c_dh9 if_dh9 ks_dh9 := by
 refine ok fun G H a0 r h => ?_
 refine st1 fun bs t o => ?_
 dsimp only [gf_dh9] at h
 refine gx fun h3 => ?_; intros; rename_i h
 obtain ⟨hf, h⟩ := gd h
 obtain ⟨q20, hq, h⟩ := bnd h
 refine w_lastK [] [] (fun K J t o => ∃ b37 c38, PP ((3, .ref 56 b37 c38 0 q20.length 17) :: K) ((56, ent b37 c38 17 (List.map eInt q20)) :: J) t o) ?_ ?_
 ·refine w_lpL (xs := a0) [0] [] 0 hf (fun K J l27 k25 t o => ∃ v22 b23 c24, gl_dh9_1 l27 k25 v22 = some q20 ∧ PP ((3, .ref 56 b23 c24 0 v22.length 17) :: (4, .v (.int .i64 (k25 : Int))) :: K) ((56, ent b23 c24 17 (List.map eInt v22)) :: J) t o) ?_ ?_ ?_
  ·exact ⟨_, _, _, hq, pin, pinh⟩
  ·rintro k25 t o hlt ⟨v22, b23, c24, h, pq⟩
   refine pn pq ?_
   rw [gl_dh9_1] at h
   exact cls
  rintro x26 l27 k25 t o hlt hx31 hw hd ⟨v22, b23, c24, h, pq⟩
  refine pn pq ?_
  rw [gl_dh9_1] at h
  refine gx fun x34 h35 => ?_; intros; rename_i h
  refine c_ste (f := eInt) v22 x26 (idx_get h35).2 ?_
  exact cls
 rintro t o ⟨b37, c38, pq⟩
 refine pnq pq ?_
 exact cls
theorem d_df9 : OkC [] c_df9 if_df9 ks_df9 := by
 refine ok fun G H a0 r h => ?_
 refine st1 fun bs t o => ?_
 dsimp only [gf_df9] at h
 exact cls
theorem d_dg9 : OkC [c_df9] c_dg9 if_dg9 ks_dg9 := by
 refine ok fun G H a0 r h => ?_
 refine st1 fun bs t o => ?_
 dsimp only [gf_dg9] at h
 refine gx fun h3 => ?_; intros; rename_i h
 obtain ⟨hf, h⟩ := gd h
 obtain ⟨q26, hq, h⟩ := bnd h
 refine w_lastK [] [] (fun K J t o => ∃ b45 c46, PP ((3, .ref 56 b45 c46 0 q26.length 130) :: K) ((56, ent b45 c46 130 (List.map eHead q26)) :: J) t o) ?_ ?_
 ·refine w_lpL (xs := a0) [0] [] 0 hf (fun K J l33 k31 t o => ∃ v28 b29 c30, gl_dg9_1 l33 k31 v28 = some q26 ∧ PP ((3, .ref 56 b29 c30 0 v28.length 130) :: (4, .v (.int .i64 (k31 : Int))) :: K) ((56, ent b29 c30 130 (List.map eHead v28)) :: J) t o) ?_ ?_ ?_
  ·exact ⟨_, _, _, hq, pin, pinh⟩
  ·rintro k31 t o hlt ⟨v28, b29, c30, h, pq⟩
   refine pn pq ?_
   rw [gl_dg9_1] at h
   exact cls
  rintro x32 l33 k31 t o hlt hx37 hw hd ⟨v28, b29, c30, h, pq⟩
  refine pn pq ?_
  rw [gl_dg9_1] at h
  refine gx fun x40 h41 x42 h43 => ?_; intros; rename_i h
  refine c_ste (f := eHead) v28 x40 (idx_get h43).2 ?_
  exact cls
 rintro t o ⟨b45, c46, pq⟩
 refine pnq pq ?_
 exact cls
theorem d_be9 : OkC [] c_be9 if_be9 ks_be9 := by
 refine ok fun G H ⟨a0, a1, a2⟩ r h => ?_
 refine st1 fun bs t o => ?_
 dsimp only [gf_be9] at h
 exact cls
theorem d_ba9 : OkC [c_be9] c_ba9 if_ba9 ks_ba9 := by
 refine ok fun G H a0 r h => ?_
 refine st1 fun bs t o => ?_
 dsimp only [gf_ba9] at h
 exact cls
theorem d_ar9 : OkC [c_be9] c_ar9 if_ar9 ks_ar9 := by
 refine ok fun G H a0 r h => ?_
 refine st1 fun bs t o => ?_
 dsimp only [gf_ar9] at h
 try (refine gx ?_; intros; rename_i h)
 obtain ⟨hf, h⟩ := gd h
 obtain ⟨q8, hq, h⟩ := bnd h
 refine w_lastK [0] [] (fun K J t o => ∃ q8_, q8 = .inr q8_ ∧ PP K J t o) ?_ ?_
 ·have ho1 := h
  refine w_lpB (xs := a0) [0, 5] [] 0 hf (fun K J l12 k10 t o => gl_ar9_1 l12 k10  = some q8 ∧ PP ((6, .v (.int .i64 (k10 : Int))) :: K) J t o) ?_ ?_ ?_
  ·exact ⟨hq, pin, pinh⟩
  ·rintro k10 t o hlt ⟨h, pq⟩
   refine pn pq ?_
   rw [gl_ar9_1] at h
   exact cls
  rintro x11 l12 k10 t o hlt hx16 hw hd ⟨h, pq⟩
  refine pn pq ?_
  rw [gl_ar9_1] at h
  exact cls
 rintro t o ⟨q8, rfl, pq⟩
 refine pnq pq ?_
 exact cls
theorem d_an9 : OkC [c_ba9, c_be9] c_an9 if_an9 ks_an9 := by
 refine ok fun G H a0 r h => ?_
 refine st1 fun bs t o => ?_
 dsimp only [gf_an9] at h
 try (refine gx ?_; intros; rename_i h)
 obtain ⟨hf, h⟩ := gd h
 obtain ⟨q22, hq, h⟩ := bnd h
 refine w_lastK [1] [8] (fun K J t o => ∃ q22_, q22 = .inr q22_ ∧ PP K J t o) ?_ ?_
 ·have ho1 := h
  refine w_lpL (xs := a0.pts) [1, 7, 8] [8] 0 hf (fun K J l26 k24 t o => gl_an9_1 a0 l26 k24  = some q22 ∧ PP ((9, .v (.int .i64 (k24 : Int))) :: K) J t o) ?_ ?_ ?_
  ·exact ⟨hq, pin, pinh⟩
  ·rintro k24 t o hlt ⟨h, pq⟩
   refine pn pq ?_
   rw [gl_an9_1] at h
   exact cls
  rintro x25 l26 k24 t o hlt hx30 hw hd ⟨h, pq⟩
  refine pn pq ?_
  rw [gl_an9_1] at h
  exact cls
 rintro t o ⟨q22, rfl, pq⟩
 refine pnq pq ?_
 exact cls
theorem d_ae9 : OkC [c_ar9, c_an9] c_ae9 if_ae9 ks_ae9 := by
 refine ok fun G H a0 r h => ?_
 refine st1 fun bs t o => ?_
 dsimp only [gf_ae9] at h
 try (refine gx ?_; intros; rename_i h)
 obtain ⟨hf, h⟩ := gd h
 obtain ⟨q28, hq, h⟩ := bnd h
 refine w_lastK [1] [8] (fun K J t o => ∃ q28_, q28 = .inr q28_ ∧ PP K J t o) ?_ ?_
 ·have ho1 := h
  refine w_lpL (xs := a0.tags) [1, 6, 7] [8] 0 hf (fun K J l32 k30 t o => gl_ae9_1 a0 l32 k30  = some q28 ∧ PP ((8, .v (.int .i64 (k30 : Int))) :: K) J t o) ?_ ?_ ?_
  ·exact ⟨hq, pin, pinh⟩
  ·rintro k30 t o hlt ⟨h, pq⟩
   refine pn pq ?_
   rw [gl_ae9_1] at h
   exact cls
  rintro x31 l32 k30 t o hlt hx36 hw hd ⟨h, pq⟩
  refine pn pq ?_
  rw [gl_ae9_1] at h
  exact cls
 rintro t o ⟨q28, rfl, pq⟩
 refine pnq pq ?_
 exact cls
end Go.Proofs.AM
