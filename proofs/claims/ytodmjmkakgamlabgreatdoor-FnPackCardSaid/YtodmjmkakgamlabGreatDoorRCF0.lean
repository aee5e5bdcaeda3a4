/- Lemmas of the proof (RCF0), on an abstract machine. Conditions: none. -/
import Derived.Test.YtodmjmkakgamlabGreatDoorRCD
set_option linter.unusedVariables false
set_option linter.unusedSimpArgs false
set_option maxRecDepth 100000
set_option maxHeartbeats 4000000
namespace Go.Proofs.AM
attribute [local irreducible] vwp vstps vstpLs vstp vdo vret kseq kblk kloop kend kcut kloop2 frzV renV shutK pfzV trnV unrV
theorem d_dk9 : OkC [] c_dk9 if_dk9 ks_dk9 := by
 refine ok fun G H a0 r h => ?_
 refine st1 fun bs t o => ?_
 dsimp only [gf_dk9] at h
 exact cls
theorem d_dm9 : OkC [c_dk9] c_dm9 if_dm9 ks_dm9 := by
 refine ok fun G H a0 r h => ?_
 refine st1 fun bs t o => ?_
 dsimp only [gf_dm9] at h
 try (refine gx ?_; intros; rename_i h)
 obtain ⟨hf, h⟩ := gd h
 obtain ⟨q24, hq, h⟩ := bnd h
 refine w_lastK [0] [] (fun K J t o => ∃ q24_, q24 = .inr q24_ ∧ PP K J t o) ?_ ?_
 ·have ho1 := h
  refine w_lpL (xs := a0) [0] [] 0 hf (fun K J l28 k26 t o => gl_dm9_1 a0 l28 k26  = some q24 ∧ PP ((3, .v (.int .i64 (k26 : Int))) :: K) J t o) ?_ ?_ ?_
  ·exact ⟨hq, pin, pinh⟩
  ·rintro k26 t o hlt ⟨h, pq⟩
   refine pn pq ?_
   rw [gl_dm9_1] at h
   exact cls
  rintro x27 l28 k26 t o hlt hx32 hw hd ⟨h, pq⟩
  refine pn pq ?_
  rw [gl_dm9_1] at h
  exact cls
 rintro t o ⟨q24, rfl, pq⟩
 refine pnq pq ?_
 exact cls
theorem d_db9 : OkC [] c_db9 if_db9 ks_db9 := by
 refine ok fun G H a0 r h => ?_
 refine st1 fun bs t o => ?_
 dsimp only [gf_db9] at h
 try (refine gx ?_; intros; rename_i h)
 obtain ⟨hf, h⟩ := gd h
 obtain ⟨q8, hq, h⟩ := bnd h
 refine w_lastK [0] [] (fun K J t o => ∃ q8_, q8 = .inr q8_ ∧ PP K J t o) ?_ ?_
 ·have ho1 := h
  refine w_lpB (xs := a0) [0] [] 0 hf (fun K J l12 k10 t o => gl_db9_1 l12 k10  = some q8 ∧ PP ((3, .v (.int .i64 (k10 : Int))) :: K) J t o) ?_ ?_ ?_
  ·exact ⟨hq, pin, pinh⟩
  ·rintro k10 t o hlt ⟨h, pq⟩
   refine pn pq ?_
   rw [gl_db9_1] at h
   exact cls
  rintro x11 l12 k10 t o hlt hx16 hw hd ⟨h, pq⟩
  refine pn pq ?_
  rw [gl_db9_1] at h
  exact cls
 rintro t o ⟨q8, rfl, pq⟩
 refine pnq pq ?_
 exact cls
theorem d_cw9 : OkC [c_dm9] c_cw9 if_cw9 ks_cw9 := by
 refine ok fun G H a0 r h => ?_
 refine st1 fun bs t o => ?_
 dsimp only [gf_cw9] at h
 exact cls
theorem d_dx9 : OkC [c_db9] c_dx9 if_dx9 ks_dx9 := by
 refine ok fun G H a0 r h => ?_
 refine st1 fun bs t o => ?_
 dsimp only [gf_dx9] at h
 try (refine gx ?_; intros; rename_i h)
 obtain ⟨hf, h⟩ := gd h
 obtain ⟨q24, hq, h⟩ := bnd h
 refine w_lastK [0] [] (fun K J t o => ∃ q24_, q24 = .inr q24_ ∧ PP K J t o) ?_ ?_
 ·have ho1 := h
  refine w_lpL (xs := a0) [0] [] 0 hf (fun K J l28 k26 t o => gl_dx9_1 a0 l28 k26  = some q24 ∧ PP ((3, .v (.int .i64 (k26 : Int))) :: K) J t o) ?_ ?_ ?_
  ·exact ⟨hq, pin, pinh⟩
  ·rintro k26 t o hlt ⟨h, pq⟩
   refine pn pq ?_
   rw [gl_dx9_1] at h
   exact cls
  rintro x27 l28 k26 t o hlt hx32 hw hd ⟨h, pq⟩
  refine pn pq ?_
  rw [gl_dx9_1] at h
  exact cls
 rintro t o ⟨q24, rfl, pq⟩
 refine pnq pq ?_
 exact cls
theorem d_co9 : OkC [c_db9, c_cw9, c_dx9] c_co9 if_co9 ks_co9 := by
 refine ok fun G H a0 r h => ?_
 refine st1 fun bs t o => ?_
 dsimp only [gf_co9] at h
 exact cls
theorem d_dn9 : OkC [] c_dn9 if_dn9 ks_dn9 := by
 refine ok fun G H ⟨a0, a1⟩ r h => ?_
 refine st1 fun bs t o => ?_
 dsimp only [gf_dn9] at h
 try (refine gx ?_; intros; rename_i h)
 obtain ⟨hf, h⟩ := gd h
 obtain ⟨q14, hq, h⟩ := bnd h
 refine w_lastK [] [] (fun K J t o => ∃ q14_, q14 = .inr q14_ ∧ PP K J t o) ?_ ?_
 ·have ho1 := h
  refine w_lpL (xs := a0) [0, 1] [] 0 hf (fun K J l18 k16 t o => gl_dn9_1 a1 l18 k16  = some q14 ∧ PP ((5, .v (.int .i64 (k16 : Int))) :: K) J t o) ?_ ?_ ?_
  ·exact ⟨hq, pin, pinh⟩
  ·rintro k16 t o hlt ⟨h, pq⟩
   refine pn pq ?_
   rw [gl_dn9_1] at h
   exact cls
  rintro x17 l18 k16 t o hlt hx22 hw hd ⟨h, pq⟩
  refine pn pq ?_
  rw [gl_dn9_1] at h
  exact cls
 rintro t o ⟨q14, rfl, pq⟩
 refine pnq pq ?_
 exact cls
theorem d_cx9 : OkC [c_dn9] c_cx9 if_cx9 ks_cx9 := by
 refine ok fun G H ⟨a0, a1⟩ r h => ?_
 refine st1 fun bs t o => ?_
 dsimp only [gf_cx9] at h
 exact cls
theorem d_dw9 : OkC [] c_dw9 if_dw9 ks_dw9 := by
 refine ok fun G H ⟨a0, a1⟩ r h => ?_
 refine st1 fun bs t o => ?_
 dsimp only [gf_dw9] at h
 try (refine gx ?_; intros; rename_i h)
 obtain ⟨hf, h⟩ := gd h
 obtain ⟨q14, hq, h⟩ := bnd h
 refine w_lastK [] [] (fun K J t o => ∃ q14_, q14 = .inr q14_ ∧ PP K J t o) ?_ ?_
 ·have ho1 := h
  refine w_lpL (xs := a0) [0, 1] [] 0 hf (fun K J l18 k16 t o => gl_dw9_1 a1 l18 k16  = some q14 ∧ PP ((5, .v (.int .i64 (k16 : Int))) :: K) J t o) ?_ ?_ ?_
  ·exact ⟨hq, pin, pinh⟩
  ·rintro k16 t o hlt ⟨h, pq⟩
   refine pn pq ?_
   rw [gl_dw9_1] at h
   exact cls
  rintro x17 l18 k16 t o hlt hx22 hw hd ⟨h, pq⟩
  refine pn pq ?_
  rw [gl_dw9_1] at h
  exact cls
 rintro t o ⟨q14, rfl, pq⟩
 refine pnq pq ?_
 exact cls
theorem d_cp9 : OkC [c_cx9, c_dw9] c_cp9 if_cp9 ks_cp9 := by
 refine ok fun G H ⟨a0, a1⟩ r h => ?_
 refine st1 fun bs t o => ?_
 dsimp only [gf_cp9] at h
 exact cls
theorem d_eu9 : OkC [] c_eu9 if_eu9 ks_eu9 := by
 refine ok fun G H ⟨a0, a1⟩ r h => ?_
 refine st1 fun bs t o => ?_
 dsimp only [gf_eu9] at h
 try (refine gx ?_; intros; rename_i h)
 obtain ⟨hf, h⟩ := gd h
 obtain ⟨q14, hq, h⟩ := bnd h
 refine w_lastK [] [] (fun K J t o => ∃ q14_, q14 = .inr q14_ ∧ PP K J t o) ?_ ?_
 ·have ho1 := h
  refine w_lpL (xs := a0) [0, 1] [] 0 hf (fun K J l18 k16 t o => gl_eu9_1 a1 l18 k16  = some q14 ∧ PP ((5, .v (.int .i64 (k16 : Int))) :: K) J t o) ?_ ?_ ?_
  ·exact ⟨hq, pin, pinh⟩
  ·rintro k16 t o hlt ⟨h, pq⟩
   refine pn pq ?_
   rw [gl_eu9_1] at h
   exact cls
  rintro x17 l18 k16 t o hlt hx22 hw hd ⟨h, pq⟩
  refine pn pq ?_
  rw [gl_eu9_1] at h
  exact cls
 rintro t o ⟨q14, rfl, pq⟩
 refine pnq pq ?_
 exact cls
theorem d_da9 : OkC [c_cp9] c_da9 if_da9 ks_da9 := by
 refine ok fun G H ⟨a0, a1⟩ r h => ?_
 refine st1 fun bs t o => ?_
 dsimp only [gf_da9] at h
 try (refine gx ?_; intros; rename_i h)
 obtain ⟨hf, h⟩ := gd h
 obtain ⟨q20, hq, h⟩ := bnd h
 refine w_lastK [] [] (fun K J t o => ∃ q20_, q20 = .inr q20_ ∧ PP K J t o) ?_ ?_
 ·have ho1 := h
  refine w_lpL (xs := a0) [0, 1] [] 0 hf (fun K J l24 k22 t o => gl_da9_1 a1 l24 k22  = some q20 ∧ PP ((5, .v (.int .i64 (k22 : Int))) :: K) J t o) ?_ ?_ ?_
  ·exact ⟨hq, pin, pinh⟩
  ·rintro k22 t o hlt ⟨h, pq⟩
   refine pn pq ?_
   rw [gl_da9_1] at h
   exact cls
  rintro x23 l24 k22 t o hlt hx28 hw hd ⟨h, pq⟩
  refine pn pq ?_
  rw [gl_da9_1] at h
  exact cls
 rintro t o ⟨q20, rfl, pq⟩
 refine pnq pq ?_
 exact cls
theorem d_ez9 : OkC [c_eu9, c_da9] c_ez9 if_ez9 ks_ez9 := by
 refine ok fun G H ⟨a0, a1⟩ r h => ?_
 refine st1 fun bs t o => ?_
 dsimp only [gf_ez9] at h
 exact cls
theorem d_fa9 : OkC [] c_fa9 if_fa9 ks_fa9 := by
 refine ok fun G H ⟨a0, a1⟩ r h => ?_
 refine st1 fun bs t o => ?_
 dsimp only [gf_fa9] at h
 try (refine gx ?_; intros; rename_i h)
 obtain ⟨hf, h⟩ := gd h
 obtain ⟨q8, hq, h⟩ := bnd h
 refine w_lastK [0, 1] [] (fun K J t o => ∃ q8_, q8 = .inr q8_ ∧ PP K J t o) ?_ ?_
 ·have ho1 := h
  refine w_lpL (xs := a0) [0, 1] [] 0 hf (fun K J l12 k10 t o => gl_fa9_1 a1 l12 k10  = some q8 ∧ PP ((5, .v (.int .i64 (k10 : Int))) :: K) J t o) ?_ ?_ ?_
  ·exact ⟨hq, pin, pinh⟩
  ·rintro k10 t o hlt ⟨h, pq⟩
   refine pn pq ?_
   rw [gl_fa9_1] at h
   exact cls
  rintro x11 l12 k10 t o hlt hx16 hw hd ⟨h, pq⟩
  refine pn pq ?_
  rw [gl_fa9_1] at h
  exact cls
 rintro t o ⟨q8, rfl, pq⟩
 refine pnq pq ?_
 exact cls
theorem d_cz9 : OkC [c_co9] c_cz9 if_cz9 ks_cz9 := by
 refine ok fun G H a0 r h => ?_
 refine st1 fun bs t o => ?_
 dsimp only [gf_cz9] at h
 try (refine gx ?_; intros; rename_i h)
 obtain ⟨hf, h⟩ := gd h
 obtain ⟨q18, hq, h⟩ := bnd h
 refine w_lastK [0] [] (fun K J t o => ∃ q18_, q18 = .inr q18_ ∧ PP K J t o) ?_ ?_
 ·have ho1 := h
  refine w_lpL (xs := a0) [0] [] 0 hf (fun K J l22 k20 t o => gl_cz9_1 a0 l22 k20  = some q18 ∧ PP ((3, .v (.int .i64 (k20 : Int))) :: K) J t o) ?_ ?_ ?_
  ·exact ⟨hq, pin, pinh⟩
  ·rintro k20 t o hlt ⟨h, pq⟩
   refine pn pq ?_
   rw [gl_cz9_1] at h
   exact cls
  rintro x21 l22 k20 t o hlt hx26 hw hd ⟨h, pq⟩
  refine pn pq ?_
  rw [gl_cz9_1] at h
  exact cls
 rintro t o ⟨q18, rfl, pq⟩
 refine pnq pq ?_
 exact cls
theorem d_er9 : OkC [c_ez9] c_er9 if_er9 ks_er9 := by
 refine ok fun G H ⟨a0, a1⟩ r h => ?_
 refine st1 fun bs t o => ?_
 dsimp only [gf_er9] at h
 try (refine gx ?_; intros; rename_i h)
 obtain ⟨hf, h⟩ := gd h
 obtain ⟨q16, hq, h⟩ := bnd h
 refine w_lastK [] [] (fun K J t o => ∃ q16_, q16 = .inr q16_ ∧ PP K J t o) ?_ ?_
 ·have ho1 := h
  refine w_lpL (xs := a0.commits) [2, 3] [16, 24] 0 hf (fun K J l20 k18 t o => gl_er9_1 a1 l20 k18  = some q16 ∧ PP ((5, .v (.int .i64 (k18 : Int))) :: K) J t o) ?_ ?_ ?_
  ·exact ⟨hq, pin, pinh⟩
  ·rintro k18 t o hlt ⟨h, pq⟩
   refine pn pq ?_
   rw [gl_er9_1] at h
   exact cls
  rintro x19 l20 k18 t o hlt hx24 hw hd ⟨h, pq⟩
  refine pn pq ?_
  rw [gl_er9_1] at h
  exact cls
 rintro t o ⟨q16, rfl, pq⟩
 refine pnq pq ?_
 exact cls
theorem d_et9 : OkC [] c_et9 if_et9 ks_et9 := by
 refine ok fun G H ⟨a0, a1⟩ r h => ?_
 refine st1 fun bs t o => ?_
 dsimp only [gf_et9] at h
 try (refine gx ?_; intros; rename_i h)
 obtain ⟨hf, h⟩ := gd h
 obtain ⟨q9, hq, h⟩ := bnd h
 refine w_lastK [] [] (fun K J t o => ∃ q9_, q9 = .inr q9_ ∧ PP K J t o) ?_ ?_
 ·have ho1 := h
  refine w_lpL (xs := a0.heads) [1, 2] [16] 0 hf (fun K J l13 k11 t o => gl_et9_1 a1 l13 k11  = some q9 ∧ PP ((5, .v (.int .i64 (k11 : Int))) :: K) J t o) ?_ ?_ ?_
  ·exact ⟨hq, pin, pinh⟩
  ·rintro k11 t o hlt ⟨h, pq⟩
   refine pn pq ?_
   rw [gl_et9_1] at h
   exact cls
  rintro x12 l13 k11 t o hlt hx17 hw hd ⟨h, pq⟩
  refine pn pq ?_
  rw [gl_et9_1] at h
  exact cls
 rintro t o ⟨q9, rfl, pq⟩
 refine pnq pq ?_
 exact cls
theorem d_di9 : OkC [] c_di9 if_di9 ks_di9 := by
 refine ok fun G H a0 r h => ?_
 refine st1 fun bs t o => ?_
 dsimp only [gf_di9] at h
 exact cls
theorem d_dr9 : OkC [c_di9] c_dr9 if_dr9 ks_dr9 := by
 refine ok fun G H a0 r h => ?_
 refine st1 fun bs t o => ?_
 dsimp only [gf_dr9] at h
 exact cls
theorem d_ea9 : OkC [c_dr9] c_ea9 if_ea9 ks_ea9 := by
 refine ok fun G H a0 r h => ?_
 refine st1 fun bs t o => ?_
 dsimp only [gf_ea9] at h
 try (refine gx ?_; intros; rename_i h)
 obtain ⟨hf, h⟩ := gd h
 obtain ⟨q42, hq, h⟩ := bnd h
 refine w_lastK [] [] (fun K J t o => ∃ b67 c68, PP ((3, .ref 40 b67 c68 0 q42.length 100) :: K) ((40, ent b67 c68 100 (List.map (eFeat true) q42)) :: J) t o) ?_ ?_
 ·refine w_lpL (xs := a0) [0] [] 0 hf (fun K J l49 k47 t o => ∃ v44 b45 c46, gl_ea9_1 l49 k47 v44 = some q42 ∧ PP ((3, .ref 40 b45 c46 0 v44.length 100) :: (4, .v (.int .i64 (k47 : Int))) :: K) ((40, ent b45 c46 100 (List.map (eFeat true) v44)) :: J) t o) ?_ ?_ ?_
  ·exact ⟨_, _, _, hq, pin, pinh⟩
  ·rintro k47 t o hlt ⟨v44, b45, c46, h, pq⟩
   refine pn pq ?_
   rw [gl_ea9_1] at h
   exact cls
  rintro x48 l49 k47 t o hlt hx53 hw hd ⟨v44, b45, c46, h, pq⟩
  refine pn pq ?_
  rw [gl_ea9_1] at h
  exact cls
 rintro t o ⟨b67, c68, pq⟩
 refine pnq pq ?_
 exact cls
theorem d_ex9 : OkC [c_ea9] c_ex9 if_ex9 ks_ex9 := by
 refine ok fun G H a0 r h => ?_
 refine st1 fun bs t o => ?_
 dsimp only [gf_ex9] at h
 exact cls
theorem d_cv9 : OkC [c_fa9, c_cz9, c_db9, c_er9, c_et9] c_cv9 if_cv9 ks_cv9 := by
 refine ok fun G H a0 r h => ?_
 refine st1 fun bs t o => ?_
 dsimp only [gf_cv9] at h
 try (refine gx ?_; intros; rename_i h)
 obtain ⟨hf, h⟩ := gd h
 obtain ⟨q36, hq, h⟩ := bnd h
 refine w_lastK [1] [8] (fun K J t o => ∃ q36_, q36 = .inr q36_ ∧ PP K J t o) ?_ ?_
 ·have ho1 := h
  refine w_lpL (xs := a0.commits) [1] [8] 0 hf (fun K J l40 k38 t o => gl_cv9_1 a0 l40 k38  = some q36 ∧ PP ((3, .v (.int .i64 (k38 : Int))) :: K) J t o) ?_ ?_ ?_
  ·exact ⟨hq, pin, pinh⟩
  ·rintro k38 t o hlt ⟨h, pq⟩
   refine pn pq ?_
   rw [gl_cv9_1] at h
   exact cls
  rintro x39 l40 k38 t o hlt hx44 hw hd ⟨h, pq⟩
  refine pn pq ?_
  rw [gl_cv9_1] at h
  exact cls
 rintro t o ⟨q36, rfl, pq⟩
 refine pnq pq ?_
 try (refine gx ?_; intros; rename_i h)
 obtain ⟨hf, h⟩ := gd h
 obtain ⟨q78, hq, h⟩ := bnd h
 refine w_lastK [] [] (fun K J t o => ∃ q78_, q78 = .inr q78_ ∧ PP K J t o) ?_ ?_
 ·have ho1 := h
  refine w_lpL (xs := a0.heads) [1] [8] 0 hf (fun K J l82 k80 t o => gl_cv9_2 a0 l82 k80  = some q78 ∧ PP ((5, .v (.int .i64 (k80 : Int))) :: K) J t o) ?_ ?_ ?_
  ·exact ⟨hq, pin, pinh⟩
  ·rintro k80 t o hlt ⟨h, pq⟩
   refine pn pq ?_
   rw [gl_cv9_2] at h
   exact cls
  rintro x81 l82 k80 t o hlt hx86 hw hd ⟨h, pq⟩
  refine pn pq ?_
  rw [gl_cv9_2] at h
  exact cls
 rintro t o ⟨q78, rfl, pq⟩
 refine pnq pq ?_
 exact cls
theorem d_ed9 : OkC [] c_ed9 if_ed9 ks_ed9 := by
 refine ok fun G H ⟨a0, a1⟩ r h => ?_
 refine st1 fun bs t o => ?_
 dsimp only [gf_ed9] at h
 try (refine gx ?_; intros; rename_i h)
 obtain ⟨hf, h⟩ := gd h
 obtain ⟨q81, hq, h⟩ := bnd h
 refine w_lastK [3] [24] (fun K J t o => ∃ b115 c116, PP ((5, .ref 64 b115 c116 0 q81.2.length 100) :: (6, .v (.bool q81.1)) :: K) ((64, ent b115 c116 100 (List.map (eFeat false) q81.2)) :: J) t o) ?_ ?_
 ·refine w_lpL (xs := a0) [0, 3] [24] 0 hf (fun K J l89 k87 t o => ∃ v82 v84 b85 c86, gl_ed9_1 a1 l89 k87 v82 v84 = some q81 ∧ PP ((5, .ref 64 b85 c86 0 v84.length 100) :: (6, .v (.bool v82)) :: (7, .v (.int .i64 (k87 : Int))) :: K) ((64, ent b85 c86 100 (List.map (eFeat false) v84)) :: J) t o) ?_ ?_ ?_
  ·exact ⟨_, _, _, _, hq, pin, pinh⟩
  ·rintro k87 t o hlt ⟨v82, v84, b85, c86, h, pq⟩
   refine pn pq ?_
   rw [gl_ed9_1] at h
   exact cls
  rintro x88 l89 k87 t o hlt hx93 hw hd ⟨v82, v84, b85, c86, h, pq⟩
  refine pn pq ?_
  rw [gl_ed9_1] at h
  try (refine gx ?_; intros; rename_i h)
  obtain ⟨q100, hq, h⟩ := bnd h
  refine w_cutK [0, 3, 7] [24] (fun K J t o => ∃ b107 c108, PP ((5, .ref 64 b107 c108 0 q100.2.length 100) :: (6, .v (.bool q100.1)) :: K) ((64, ent b107 c108 100 (List.map (eFeat false) q100.2)) :: J) t o) ?_ ?_
  ·have h := hq
   exact cls
  rintro t o ⟨b107, c108, pq⟩
  refine pn pq ?_
  exact cls
 rintro t o ⟨b115, c116, pq⟩
 refine pnq pq ?_
 exact cls
theorem d_ei9 : OkC [c_ed9] c_ei9 if_ei9 ks_ei9 := by
 refine ok fun G H ⟨a0, a1⟩ r h => ?_
 refine st1 fun bs t o => ?_
 dsimp only [gf_ei9] at h
 try (refine gx ?_; intros; rename_i h)
 obtain ⟨hf, h⟩ := gd h
 obtain ⟨q21, hq, h⟩ := bnd h
 refine w_lastK [] [] (fun K J t o => PP ((5, .ro (List.map (eFeat false) q21)) :: K) J t o) ?_ ?_
 ·refine w_lpL (xs := a1) [1] [] 0 hf (fun K J l26 k24 t o => ∃ v22, gl_ei9_1 l26 k24 v22 = some q21 ∧ PP ((5, .ro (List.map (eFeat false) v22)) :: (6, .v (.int .i64 (k24 : Int))) :: K) J t o) ?_ ?_ ?_
  ·exact ⟨_, hq, pin, pinh⟩
  ·rintro k24 t o hlt ⟨v22, h, pq⟩
   refine pn pq ?_
   rw [gl_ei9_1] at h
   exact cls
  rintro x25 l26 k24 t o hlt hx30 hw hd ⟨v22, h, pq⟩
  refine pn pq ?_
  rw [gl_ei9_1] at h
  exact cls
 rintro t o pq
 refine pnq pq ?_
 try (refine gx ?_; intros; rename_i h)
 obtain ⟨hf, h⟩ := gd h
 obtain ⟨q61, hq, h⟩ := bnd h
 refine w_lastK [] [] (fun K J t o => ∃ b80 c81, PP ((7, .ref 176 b80 c81 0 q61.length 49) :: K) ((176, ent b80 c81 49 (List.map eStr q61)) :: J) t o) ?_ ?_
 ·refine w_lpL (xs := q21) [5] [] 0 hf (fun K J l68 k66 t o => ∃ v63 b64 c65, gl_ei9_2 l68 k66 v63 = some q61 ∧ PP ((7, .ref 176 b64 c65 0 v63.length 49) :: (8, .v (.int .i64 (k66 : Int))) :: K) ((176, ent b64 c65 49 (List.map eStr v63)) :: J) t o) ?_ ?_ ?_
  ·exact ⟨_, _, _, hq, pin, pinh⟩
  ·rintro k66 t o hlt ⟨v63, b64, c65, h, pq⟩
   refine pn pq ?_
   rw [gl_ei9_2] at h
   exact cls
  rintro x67 l68 k66 t o hlt hx72 hw hd ⟨v63, b64, c65, h, pq⟩
  refine pn pq ?_
  rw [gl_ei9_2] at h
  exact cls
 rintro t o ⟨b80, c81, pq⟩
 refine pnq pq ?_
 exact cls
theorem d_ec9 : OkC [] c_ec9 if_ec9 ks_ec9 := by
 refine ok fun G H ⟨a0, a1⟩ r h => ?_
 refine st1 fun bs t o => ?_
 dsimp only [gf_ec9] at h
 try (refine gx ?_; intros; rename_i h)
 obtain ⟨hf, h⟩ := gd h
 obtain ⟨q8, hq, h⟩ := bnd h
 refine w_lastK [] [] (fun K J t o => ∃ q8_, q8 = .inr q8_ ∧ PP K J t o) ?_ ?_
 ·have ho1 := h
  refine w_lpL (xs := a0) [0, 1] [] 0 hf (fun K J l12 k10 t o => gl_ec9_1 a1 l12 k10  = some q8 ∧ PP ((5, .v (.int .i64 (k10 : Int))) :: K) J t o) ?_ ?_ ?_
  ·exact ⟨hq, pin, pinh⟩
  ·rintro k10 t o hlt ⟨h, pq⟩
   refine pn pq ?_
   rw [gl_ec9_1] at h
   exact cls
  rintro x11 l12 k10 t o hlt hx16 hw hd ⟨h, pq⟩
  refine pn pq ?_
  rw [gl_ec9_1] at h
  exact cls
 rintro t o ⟨q8, rfl, pq⟩
 refine pnq pq ?_
 exact cls
theorem d_dv9 : OkC [] c_dv9 if_dv9 ks_dv9 := by
 refine ok fun G H ⟨a0, a1, a2⟩ r h => ?_
 refine st1 fun bs t o => ?_
 dsimp only [gf_dv9] at h
 try (refine gx ?_; intros; rename_i h)
 obtain ⟨hf, h⟩ := gd h
 obtain ⟨q78, hq, h⟩ := bnd h
 refine w_lastK [1, 2] [] (fun K J t o => ∃ b112 c113, PP ((7, .ref 80 b112 c113 0 q78.2.length 82) :: (8, .v (.bool q78.1)) :: K) ((80, ent b112 c113 82 (List.map eTag q78.2)) :: J) t o) ?_ ?_
 ·refine w_lpL (xs := a0) [0, 1, 2] [] 0 hf (fun K J l86 k84 t o => ∃ v79 v81 b82 c83, gl_dv9_1 a1 a2 l86 k84 v79 v81 = some q78 ∧ PP ((7, .ref 80 b82 c83 0 v81.length 82) :: (8, .v (.bool v79)) :: (9, .v (.int .i64 (k84 : Int))) :: K) ((80, ent b82 c83 82 (List.map eTag v81)) :: J) t o) ?_ ?_ ?_
  ·exact ⟨_, _, _, _, hq, pin, pinh⟩
  ·rintro k84 t o hlt ⟨v79, v81, b82, c83, h, pq⟩
   refine pn pq ?_
   rw [gl_dv9_1] at h
   exact cls
  rintro x85 l86 k84 t o hlt hx90 hw hd ⟨v79, v81, b82, c83, h, pq⟩
  refine pn pq ?_
  rw [gl_dv9_1] at h
  try (refine gx ?_; intros; rename_i h)
  obtain ⟨q97, hq, h⟩ := bnd h
  refine w_cutK [0, 1, 2, 9] [] (fun K J t o => ∃ b104 c105, PP ((7, .ref 80 b104 c105 0 q97.2.length 82) :: (8, .v (.bool q97.1)) :: K) ((80, ent b104 c105 82 (List.map eTag q97.2)) :: J) t o) ?_ ?_
  ·have h := hq
   exact cls
  rintro t o ⟨b104, c105, pq⟩
  refine pn pq ?_
  exact cls
 rintro t o ⟨b112, c113, pq⟩
 refine pnq pq ?_
 exact cls
theorem d_em9 : OkC [c_ec9, c_dr9] c_em9 if_em9 ks_em9 := by
 refine ok fun G H ⟨a0, a1⟩ r h => ?_
 refine st1 fun bs t o => ?_
 dsimp only [gf_em9] at h
 exact cls
theorem d_eo9 : OkC [c_er9, c_ex9] c_eo9 if_eo9 ks_eo9 := by
 refine ok fun G H ⟨a0, a1, a2⟩ r h => ?_
 refine st1 fun bs t o => ?_
 dsimp only [gf_eo9] at h
 refine gx fun x4 h5 => ?_; intros; rename_i h
 refine cnd h rfl rfl (fun h c => ?_) fun h c => ?_
 ·try rw [c]
  refine gx fun x6 h7 h15 x16 h17 => ?_; intros; rename_i h
  refine c_ste (f := eHead) a0.heads (⟨x16.name, (a0.commits.length : Int)⟩ : Head) (idx_get h17).2 ?_
  exact cls
 try rw [c]
 refine gx fun x18 h19 => ?_; intros; rename_i h
 refine c_ste (f := eHead) a0.heads (⟨x18.name, x4⟩ : Head) (idx_get h19).2 ?_
 exact cls
theorem d_eq9 : OkC [c_ex9] c_eq9 if_eq9 ks_eq9 := by
 refine ok fun G H a0 r h => ?_
 refine st1 fun bs t o => ?_
 dsimp only [gf_eq9] at h
 refine gx fun h6 => ?_; intros; rename_i h
 obtain ⟨hf, h⟩ := gd h
 obtain ⟨q49, hq, h⟩ := bnd h
 refine w_lastK [2] [1000256, 1000257, 16] (fun K J t o => ∃ b75 c76 b4 c5 b77, PP ((3, .ptr 24 b77 210 0 0) :: K) ((1000384, ent b75 c76 115 (List.map (eCommit true) q49)) :: (1000385, ent b4 c5 130 (List.map eHead ([] ++ a0.heads))) :: (24, ⟨b77, 1, 210, true, [[.al 1000384 b75 c76 0 q49.length 115, .al 1000385 b4 c5 0 ([] ++ a0.heads).length 130]]⟩) :: J) t o) ?_ ?_
 ·refine w_lpL (xs := a0.commits) [1, 2] [8, 1000256, 1000257, 16] 0 hf (fun K J l57 k55 t o => ∃ v51 b52 c53 b4 c5 b54, gl_eq9_1 l57 k55 v51 = some q49 ∧ PP ((3, .ptr 24 b54 210 0 0) :: (4, .v (.int .i64 (k55 : Int))) :: K) ((1000384, ent b52 c53 115 (List.map (eCommit true) v51)) :: (1000385, ent b4 c5 130 (List.map eHead ([] ++ a0.heads))) :: (24, ⟨b54, 1, 210, true, [[.al 1000384 b52 c53 0 v51.length 115, .al 1000385 b4 c5 0 ([] ++ a0.heads).length 130]]⟩) :: J) t o) ?_ ?_ ?_
  ·exact ⟨_, _, _, _, _, _, hq, pin, pinh⟩
  ·rintro k55 t o hlt ⟨v51, b52, c53, b4, c5, b54, h, pq⟩
   refine pn pq ?_
   rw [gl_eq9_1] at h
   exact cls
  rintro x56 l57 k55 t o hlt hx61 hw hd ⟨v51, b52, c53, b4, c5, b54, h, pq⟩
  refine pn pq ?_
  rw [gl_eq9_1] at h
  exact cls
 rintro t o ⟨b75, c76, b4, c5, b77, pq⟩
 refine pnq pq ?_
 exact cls
theorem d_bo9 : OkC [] c_bo9 if_bo9 ks_bo9 := by
 refine ok fun G H ⟨a0, a1, a2⟩ r h => ?_
 refine st1 fun bs t o => ?_
 dsimp only [gf_bo9] at h
 exact cls
theorem d_bk9 : OkC [c_bo9] c_bk9 if_bk9 ks_bk9 := by
 refine ok fun G H a0 r h => ?_
 refine st1 fun bs t o => ?_
 dsimp only [gf_bk9] at h
 exact cls
theorem d_ba9 : OkC [c_bo9] c_ba9 if_ba9 ks_ba9 := by
 refine ok fun G H a0 r h => ?_
 refine st1 fun bs t o => ?_
 dsimp only [gf_ba9] at h
 try (refine gx ?_; intros; rename_i h)
 obtain ⟨hf, h⟩ := gd h
 obtain ⟨q8, hq, h⟩ := bnd h
 refine w_lastK [0] [] (fun K J t o => ∃ q8_, q8 = .inr q8_ ∧ PP K J t o) ?_ ?_
 ·have ho1 := h
  refine w_lpB (xs := a0) [0, 5] [] 0 hf (fun K J l12 k10 t o => gl_ba9_1 l12 k10  = some q8 ∧ PP ((6, .v (.int .i64 (k10 : Int))) :: K) J t o) ?_ ?_ ?_
  ·exact ⟨hq, pin, pinh⟩
  ·rintro k10 t o hlt ⟨h, pq⟩
   refine pn pq ?_
   rw [gl_ba9_1] at h
   exact cls
  rintro x11 l12 k10 t o hlt hx16 hw hd ⟨h, pq⟩
  refine pn pq ?_
  rw [gl_ba9_1] at h
  exact cls
 rintro t o ⟨q8, rfl, pq⟩
 refine pnq pq ?_
 exact cls
theorem d_av9 : OkC [c_bk9, c_bo9] c_av9 if_av9 ks_av9 := by
 refine ok fun G H a0 r h => ?_
 refine st1 fun bs t o => ?_
 dsimp only [gf_av9] at h
 try (refine gx ?_; intros; rename_i h)
 obtain ⟨hf, h⟩ := gd h
 obtain ⟨q22, hq, h⟩ := bnd h
 refine w_lastK [1] [8] (fun K J t o => ∃ q22_, q22 = .inr q22_ ∧ PP K J t o) ?_ ?_
 ·have ho1 := h
  refine w_lpL (xs := a0.pts) [1, 7, 8] [8] 0 hf (fun K J l26 k24 t o => gl_av9_1 a0 l26 k24  = some q22 ∧ PP ((9, .v (.int .i64 (k24 : Int))) :: K) J t o) ?_ ?_ ?_
  ·exact ⟨hq, pin, pinh⟩
  ·rintro k24 t o hlt ⟨h, pq⟩
   refine pn pq ?_
   rw [gl_av9_1] at h
   exact cls
  rintro x25 l26 k24 t o hlt hx30 hw hd ⟨h, pq⟩
  refine pn pq ?_
  rw [gl_av9_1] at h
  exact cls
 rintro t o ⟨q22, rfl, pq⟩
 refine pnq pq ?_
 exact cls
theorem d_ah9 : OkC [c_ba9, c_av9] c_ah9 if_ah9 ks_ah9 := by
 refine ok fun G H a0 r h => ?_
 refine st1 fun bs t o => ?_
 dsimp only [gf_ah9] at h
 try (refine gx ?_; intros; rename_i h)
 obtain ⟨hf, h⟩ := gd h
 obtain ⟨q28, hq, h⟩ := bnd h
 refine w_lastK [1] [8] (fun K J t o => ∃ q28_, q28 = .inr q28_ ∧ PP K J t o) ?_ ?_
 ·have ho1 := h
  refine w_lpL (xs := a0.tags) [1, 6, 7] [8] 0 hf (fun K J l32 k30 t o => gl_ah9_1 a0 l32 k30  = some q28 ∧ PP ((8, .v (.int .i64 (k30 : Int))) :: K) J t o) ?_ ?_ ?_
  ·exact ⟨hq, pin, pinh⟩
  ·rintro k30 t o hlt ⟨h, pq⟩
   refine pn pq ?_
   rw [gl_ah9_1] at h
   exact cls
  rintro x31 l32 k30 t o hlt hx36 hw hd ⟨h, pq⟩
  refine pn pq ?_
  rw [gl_ah9_1] at h
  exact cls
 rintro t o ⟨q28, rfl, pq⟩
 refine pnq pq ?_
 exact cls
theorem d_by9 : OkC [] c_by9 if_by9 ks_by9 := by
 refine ok fun G H ⟨a0, a1⟩ r h => ?_
 refine st1 fun bs t o => ?_
 dsimp only [gf_by9] at h
 try (refine gx ?_; intros; rename_i h)
 obtain ⟨hf, h⟩ := gd h
 obtain ⟨q14, hq, h⟩ := bnd h
 refine w_lastK [] [] (fun K J t o => ∃ q14_, q14 = .inr q14_ ∧ PP K J t o) ?_ ?_
 ·have ho1 := h
  refine w_lpL (xs := a0) [0, 1, 12] [] 0 hf (fun K J l18 k16 t o => gl_by9_1 a1 l18 k16  = some q14 ∧ PP ((13, .v (.int .i64 (k16 : Int))) :: K) J t o) ?_ ?_ ?_
  ·exact ⟨hq, pin, pinh⟩
  ·rintro k16 t o hlt ⟨h, pq⟩
   refine pn pq ?_
   rw [gl_by9_1] at h
   exact cls
  rintro x17 l18 k16 t o hlt hx22 hw hd ⟨h, pq⟩
  refine pn pq ?_
  rw [gl_by9_1] at h
  exact cls
 rintro t o ⟨q14, rfl, pq⟩
 refine pnq pq ?_
 exact cls
theorem d_aw9 : OkC [c_by9] c_aw9 if_aw9 ks_aw9 := by
 refine ok fun G H ⟨a0, a1⟩ r h => ?_
 refine st1 fun bs t o => ?_
 dsimp only [gf_aw9] at h
 exact cls
theorem d_bz9 : OkC [] c_bz9 if_bz9 ks_bz9 := by
 refine ok fun G H ⟨a0, a1⟩ r h => ?_
 refine st1 fun bs t o => ?_
 dsimp only [gf_bz9] at h
 try (refine gx ?_; intros; rename_i h)
 obtain ⟨hf, h⟩ := gd h
 obtain ⟨q14, hq, h⟩ := bnd h
 refine w_lastK [] [] (fun K J t o => ∃ q14_, q14 = .inr q14_ ∧ PP K J t o) ?_ ?_
 ·have ho1 := h
  refine w_lpL (xs := a0) [0, 1, 12] [] 0 hf (fun K J l18 k16 t o => gl_bz9_1 a1 l18 k16  = some q14 ∧ PP ((13, .v (.int .i64 (k16 : Int))) :: K) J t o) ?_ ?_ ?_
  ·exact ⟨hq, pin, pinh⟩
  ·rintro k16 t o hlt ⟨h, pq⟩
   refine pn pq ?_
   rw [gl_bz9_1] at h
   exact cls
  rintro x17 l18 k16 t o hlt hx22 hw hd ⟨h, pq⟩
  refine pn pq ?_
  rw [gl_bz9_1] at h
  exact cls
 rintro t o ⟨q14, rfl, pq⟩
 refine pnq pq ?_
 exact cls
theorem d_ai9 : OkC [c_aw9, c_bz9] c_ai9 if_ai9 ks_ai9 := by
 refine ok fun G H ⟨a0, a1⟩ r h => ?_
 refine st1 fun bs t o => ?_
 dsimp only [gf_ai9] at h
 exact cls
theorem d_bw9 : OkC [c_ai9] c_bw9 if_bv9 ks_bv9 := by
 refine ok fun G H ⟨a0, a1⟩ r h => ?_
 have H_ai9 := H _ (.head _)
 replace H := hpre 0 H
 refine st1 fun bs t o => ?_
 dsimp only [gf_bw9] at h
 try (refine gx ?_; intros; rename_i h)
 obtain ⟨hf, h⟩ := gd h
 obtain ⟨q26, hq, h⟩ := bnd h
 refine w_lastK [] [] (fun K J t o => ∃ q26_, q26 = .inr q26_ ∧ PP K J t o) ?_ ?_
 ·have ho1 := h
  refine w_lpL (xs := a0) [1, 2, 15, 16] [] 0 hf (fun K J l30 k28 t o => gl_bw9_1 a1 l30 k28  = some q26 ∧ PP ((17, .v (.int .i64 (k28 : Int))) :: K) J t o) ?_ ?_ ?_
  ·exact ⟨hq, pin, pinh⟩
  ·rintro k28 t o hlt ⟨h, pq⟩
   refine pn pq ?_
   rw [gl_bw9_1] at h
   exact cls
  rintro x29 l30 k28 t o hlt hx34 hw hd ⟨h, pq⟩
  refine pn pq ?_
  rw [gl_bw9_1] at h
  refine gx fun x38 h39 => ?_; intros; rename_i h
  obtain ⟨x41, h42, h⟩ := bnd h
  refine c_calld (c := c_ai9) (x29, x38) H_ai9 h42 fun ch => ?_
  exact cls
 rintro t o ⟨q26, rfl, pq⟩
 refine pnq pq ?_
 exact cls
end Go.Proofs.AM
