/- Lemmas of the proof (RGF0), on an abstract machine. Conditions: none. -/
import Derived.Test.YtodmjmkakgamlaaGreatDoorRGD
set_option linter.unusedVariables false
set_option linter.unusedSimpArgs false
set_option maxRecDepth 100000
set_option maxHeartbeats 4000000
namespace Go.Proofs.AM
attribute [local irreducible] vwp vstps vstpLs vstp vdo vret kseq kblk kloop kend kcut kloop2 frzV renV shutK pfzV trnV unrV
theorem d_dg9 : OkC [] c_dg9 if_dg9 ks_dg9 := by
 refine ok fun G H a0 r h => ?_
 refine st1 fun bs t o => ?_
 dsimp only [gf_dg9] at h
 exact cls
theorem d_di9 : OkC [c_dg9] c_di9 if_di9 ks_di9 := by
 refine ok fun G H a0 r h => ?_
 refine st1 fun bs t o => ?_
 dsimp only [gf_di9] at h
 try (refine gx ?_; intros; rename_i h)
 obtain ⟨hf, h⟩ := gd h
 obtain ⟨q24, hq, h⟩ := bnd h
 refine w_lastK [0] [] (fun K J t o => ∃ q24_, q24 = .inr q24_ ∧ PP K J t o) ?_ ?_
 ·have ho1 := h
  refine w_lpL (xs := a0) [0] [] 0 hf (fun K J l28 k26 t o => gl_di9_1 a0 l28 k26  = some q24 ∧ PP ((3, .v (.int .i64 (k26 : Int))) :: K) J t o) ?_ ?_ ?_
  ·exact ⟨hq, pin, pinh⟩
  ·rintro k26 t o hlt ⟨h, pq⟩
   refine pn pq ?_
   rw [gl_di9_1] at h
   exact cls
  rintro x27 l28 k26 t o hlt hx32 hw hd ⟨h, pq⟩
  refine pn pq ?_
  rw [gl_di9_1] at h
  exact cls
 rintro t o ⟨q24, rfl, pq⟩
 refine pnq pq ?_
 exact cls
theorem d_cx9 : OkC [] c_cx9 if_cx9 ks_cx9 := by
 refine ok fun G H a0 r h => ?_
 refine st1 fun bs t o => ?_
 dsimp only [gf_cx9] at h
 try (refine gx ?_; intros; rename_i h)
 obtain ⟨hf, h⟩ := gd h
 obtain ⟨q8, hq, h⟩ := bnd h
 refine w_lastK [0] [] (fun K J t o => ∃ q8_, q8 = .inr q8_ ∧ PP K J t o) ?_ ?_
 ·have ho1 := h
  refine w_lpB (xs := a0) [0] [] 0 hf (fun K J l12 k10 t o => gl_cx9_1 l12 k10  = some q8 ∧ PP ((3, .v (.int .i64 (k10 : Int))) :: K) J t o) ?_ ?_ ?_
  ·exact ⟨hq, pin, pinh⟩
  ·rintro k10 t o hlt ⟨h, pq⟩
   refine pn pq ?_
   rw [gl_cx9_1] at h
   exact cls
  rintro x11 l12 k10 t o hlt hx16 hw hd ⟨h, pq⟩
  refine pn pq ?_
  rw [gl_cx9_1] at h
  exact cls
 rintro t o ⟨q8, rfl, pq⟩
 refine pnq pq ?_
 exact cls
theorem d_cs9 : OkC [c_di9] c_cs9 if_cs9 ks_cs9 := by
 refine ok fun G H a0 r h => ?_
 refine st1 fun bs t o => ?_
 dsimp only [gf_cs9] at h
 exact cls
theorem d_dt9 : OkC [c_cx9] c_dt9 if_dt9 ks_dt9 := by
 refine ok fun G H a0 r h => ?_
 refine st1 fun bs t o => ?_
 dsimp only [gf_dt9] at h
 try (refine gx ?_; intros; rename_i h)
 obtain ⟨hf, h⟩ := gd h
 obtain ⟨q24, hq, h⟩ := bnd h
 refine w_lastK [0] [] (fun K J t o => ∃ q24_, q24 = .inr q24_ ∧ PP K J t o) ?_ ?_
 ·have ho1 := h
  refine w_lpL (xs := a0) [0] [] 0 hf (fun K J l28 k26 t o => gl_dt9_1 a0 l28 k26  = some q24 ∧ PP ((3, .v (.int .i64 (k26 : Int))) :: K) J t o) ?_ ?_ ?_
  ·exact ⟨hq, pin, pinh⟩
  ·rintro k26 t o hlt ⟨h, pq⟩
   refine pn pq ?_
   rw [gl_dt9_1] at h
   exact cls
  rintro x27 l28 k26 t o hlt hx32 hw hd ⟨h, pq⟩
  refine pn pq ?_
  rw [gl_dt9_1] at h
  exact cls
 rintro t o ⟨q24, rfl, pq⟩
 refine pnq pq ?_
 exact cls
theorem d_cj9 : OkC [c_cx9, c_cs9, c_dt9] c_cj9 if_cj9 ks_cj9 := by
 refine ok fun G H a0 r h => ?_
 refine st1 fun bs t o => ?_
 dsimp only [gf_cj9] at h
 exact cls
theorem d_dj9 : OkC [] c_dj9 if_dj9 ks_dj9 := by
 refine ok fun G H ⟨a0, a1⟩ r h => ?_
 refine st1 fun bs t o => ?_
 dsimp only [gf_dj9] at h
 try (refine gx ?_; intros; rename_i h)
 obtain ⟨hf, h⟩ := gd h
 obtain ⟨q14, hq, h⟩ := bnd h
 refine w_lastK [] [] (fun K J t o => ∃ q14_, q14 = .inr q14_ ∧ PP K J t o) ?_ ?_
 ·have ho1 := h
  refine w_lpL (xs := a0) [0, 1] [] 0 hf (fun K J l18 k16 t o => gl_dj9_1 a1 l18 k16  = some q14 ∧ PP ((5, .v (.int .i64 (k16 : Int))) :: K) J t o) ?_ ?_ ?_
  ·exact ⟨hq, pin, pinh⟩
  ·rintro k16 t o hlt ⟨h, pq⟩
   refine pn pq ?_
   rw [gl_dj9_1] at h
   exact cls
  rintro x17 l18 k16 t o hlt hx22 hw hd ⟨h, pq⟩
  refine pn pq ?_
  rw [gl_dj9_1] at h
  exact cls
 rintro t o ⟨q14, rfl, pq⟩
 refine pnq pq ?_
 exact cls
theorem d_ct9 : OkC [c_dj9] c_ct9 if_ct9 ks_ct9 := by
 refine ok fun G H ⟨a0, a1⟩ r h => ?_
 refine st1 fun bs t o => ?_
 dsimp only [gf_ct9] at h
 exact cls
theorem d_ds9 : OkC [] c_ds9 if_ds9 ks_ds9 := by
 refine ok fun G H ⟨a0, a1⟩ r h => ?_
 refine st1 fun bs t o => ?_
 dsimp only [gf_ds9] at h
 try (refine gx ?_; intros; rename_i h)
 obtain ⟨hf, h⟩ := gd h
 obtain ⟨q14, hq, h⟩ := bnd h
 refine w_lastK [] [] (fun K J t o => ∃ q14_, q14 = .inr q14_ ∧ PP K J t o) ?_ ?_
 ·have ho1 := h
  refine w_lpL (xs := a0) [0, 1] [] 0 hf (fun K J l18 k16 t o => gl_ds9_1 a1 l18 k16  = some q14 ∧ PP ((5, .v (.int .i64 (k16 : Int))) :: K) J t o) ?_ ?_ ?_
  ·exact ⟨hq, pin, pinh⟩
  ·rintro k16 t o hlt ⟨h, pq⟩
   refine pn pq ?_
   rw [gl_ds9_1] at h
   exact cls
  rintro x17 l18 k16 t o hlt hx22 hw hd ⟨h, pq⟩
  refine pn pq ?_
  rw [gl_ds9_1] at h
  exact cls
 rintro t o ⟨q14, rfl, pq⟩
 refine pnq pq ?_
 exact cls
theorem d_ck9 : OkC [c_ct9, c_ds9] c_ck9 if_ck9 ks_ck9 := by
 refine ok fun G H ⟨a0, a1⟩ r h => ?_
 refine st1 fun bs t o => ?_
 dsimp only [gf_ck9] at h
 exact cls
theorem d_er9 : OkC [] c_er9 if_er9 ks_er9 := by
 refine ok fun G H ⟨a0, a1⟩ r h => ?_
 refine st1 fun bs t o => ?_
 dsimp only [gf_er9] at h
 try (refine gx ?_; intros; rename_i h)
 obtain ⟨hf, h⟩ := gd h
 obtain ⟨q14, hq, h⟩ := bnd h
 refine w_lastK [] [] (fun K J t o => ∃ q14_, q14 = .inr q14_ ∧ PP K J t o) ?_ ?_
 ·have ho1 := h
  refine w_lpL (xs := a0) [0, 1] [] 0 hf (fun K J l18 k16 t o => gl_er9_1 a1 l18 k16  = some q14 ∧ PP ((5, .v (.int .i64 (k16 : Int))) :: K) J t o) ?_ ?_ ?_
  ·exact ⟨hq, pin, pinh⟩
  ·rintro k16 t o hlt ⟨h, pq⟩
   refine pn pq ?_
   rw [gl_er9_1] at h
   exact cls
  rintro x17 l18 k16 t o hlt hx22 hw hd ⟨h, pq⟩
  refine pn pq ?_
  rw [gl_er9_1] at h
  exact cls
 rintro t o ⟨q14, rfl, pq⟩
 refine pnq pq ?_
 exact cls
theorem d_cw9 : OkC [c_ck9] c_cw9 if_cw9 ks_cw9 := by
 refine ok fun G H ⟨a0, a1⟩ r h => ?_
 refine st1 fun bs t o => ?_
 dsimp only [gf_cw9] at h
 try (refine gx ?_; intros; rename_i h)
 obtain ⟨hf, h⟩ := gd h
 obtain ⟨q20, hq, h⟩ := bnd h
 refine w_lastK [] [] (fun K J t o => ∃ q20_, q20 = .inr q20_ ∧ PP K J t o) ?_ ?_
 ·have ho1 := h
  refine w_lpL (xs := a0) [0, 1] [] 0 hf (fun K J l24 k22 t o => gl_cw9_1 a1 l24 k22  = some q20 ∧ PP ((5, .v (.int .i64 (k22 : Int))) :: K) J t o) ?_ ?_ ?_
  ·exact ⟨hq, pin, pinh⟩
  ·rintro k22 t o hlt ⟨h, pq⟩
   refine pn pq ?_
   rw [gl_cw9_1] at h
   exact cls
  rintro x23 l24 k22 t o hlt hx28 hw hd ⟨h, pq⟩
  refine pn pq ?_
  rw [gl_cw9_1] at h
  exact cls
 rintro t o ⟨q20, rfl, pq⟩
 refine pnq pq ?_
 exact cls
theorem d_ew9 : OkC [c_er9, c_cw9] c_ew9 if_ew9 ks_ew9 := by
 refine ok fun G H ⟨a0, a1⟩ r h => ?_
 refine st1 fun bs t o => ?_
 dsimp only [gf_ew9] at h
 exact cls
theorem d_ex9 : OkC [] c_ex9 if_ex9 ks_ex9 := by
 refine ok fun G H ⟨a0, a1⟩ r h => ?_
 refine st1 fun bs t o => ?_
 dsimp only [gf_ex9] at h
 try (refine gx ?_; intros; rename_i h)
 obtain ⟨hf, h⟩ := gd h
 obtain ⟨q8, hq, h⟩ := bnd h
 refine w_lastK [0, 1] [] (fun K J t o => ∃ q8_, q8 = .inr q8_ ∧ PP K J t o) ?_ ?_
 ·have ho1 := h
  refine w_lpL (xs := a0) [0, 1] [] 0 hf (fun K J l12 k10 t o => gl_ex9_1 a1 l12 k10  = some q8 ∧ PP ((5, .v (.int .i64 (k10 : Int))) :: K) J t o) ?_ ?_ ?_
  ·exact ⟨hq, pin, pinh⟩
  ·rintro k10 t o hlt ⟨h, pq⟩
   refine pn pq ?_
   rw [gl_ex9_1] at h
   exact cls
  rintro x11 l12 k10 t o hlt hx16 hw hd ⟨h, pq⟩
  refine pn pq ?_
  rw [gl_ex9_1] at h
  exact cls
 rintro t o ⟨q8, rfl, pq⟩
 refine pnq pq ?_
 exact cls
theorem d_cv9 : OkC [c_cj9] c_cv9 if_cv9 ks_cv9 := by
 refine ok fun G H a0 r h => ?_
 refine st1 fun bs t o => ?_
 dsimp only [gf_cv9] at h
 try (refine gx ?_; intros; rename_i h)
 obtain ⟨hf, h⟩ := gd h
 obtain ⟨q18, hq, h⟩ := bnd h
 refine w_lastK [0] [] (fun K J t o => ∃ q18_, q18 = .inr q18_ ∧ PP K J t o) ?_ ?_
 ·have ho1 := h
  refine w_lpL (xs := a0) [0] [] 0 hf (fun K J l22 k20 t o => gl_cv9_1 a0 l22 k20  = some q18 ∧ PP ((3, .v (.int .i64 (k20 : Int))) :: K) J t o) ?_ ?_ ?_
  ·exact ⟨hq, pin, pinh⟩
  ·rintro k20 t o hlt ⟨h, pq⟩
   refine pn pq ?_
   rw [gl_cv9_1] at h
   exact cls
  rintro x21 l22 k20 t o hlt hx26 hw hd ⟨h, pq⟩
  refine pn pq ?_
  rw [gl_cv9_1] at h
  exact cls
 rintro t o ⟨q18, rfl, pq⟩
 refine pnq pq ?_
 exact cls
theorem d_eo9 : OkC [c_ew9] c_eo9 if_eo9 ks_eo9 := by
 refine ok fun G H ⟨a0, a1⟩ r h => ?_
 refine st1 fun bs t o => ?_
 dsimp only [gf_eo9] at h
 try (refine gx ?_; intros; rename_i h)
 obtain ⟨hf, h⟩ := gd h
 obtain ⟨q16, hq, h⟩ := bnd h
 refine w_lastK [] [] (fun K J t o => ∃ q16_, q16 = .inr q16_ ∧ PP K J t o) ?_ ?_
 ·have ho1 := h
  refine w_lpL (xs := a0.commits) [2, 3] [16, 24] 0 hf (fun K J l20 k18 t o => gl_eo9_1 a1 l20 k18  = some q16 ∧ PP ((5, .v (.int .i64 (k18 : Int))) :: K) J t o) ?_ ?_ ?_
  ·exact ⟨hq, pin, pinh⟩
  ·rintro k18 t o hlt ⟨h, pq⟩
   refine pn pq ?_
   rw [gl_eo9_1] at h
   exact cls
  rintro x19 l20 k18 t o hlt hx24 hw hd ⟨h, pq⟩
  refine pn pq ?_
  rw [gl_eo9_1] at h
  exact cls
 rintro t o ⟨q16, rfl, pq⟩
 refine pnq pq ?_
 exact cls
theorem d_eq9 : OkC [] c_eq9 if_eq9 ks_eq9 := by
 refine ok fun G H ⟨a0, a1⟩ r h => ?_
 refine st1 fun bs t o => ?_
 dsimp only [gf_eq9] at h
 try (refine gx ?_; intros; rename_i h)
 obtain ⟨hf, h⟩ := gd h
 obtain ⟨q9, hq, h⟩ := bnd h
 refine w_lastK [] [] (fun K J t o => ∃ q9_, q9 = .inr q9_ ∧ PP K J t o) ?_ ?_
 ·have ho1 := h
  refine w_lpL (xs := a0.heads) [1, 2] [16] 0 hf (fun K J l13 k11 t o => gl_eq9_1 a1 l13 k11  = some q9 ∧ PP ((5, .v (.int .i64 (k11 : Int))) :: K) J t o) ?_ ?_ ?_
  ·exact ⟨hq, pin, pinh⟩
  ·rintro k11 t o hlt ⟨h, pq⟩
   refine pn pq ?_
   rw [gl_eq9_1] at h
   exact cls
  rintro x12 l13 k11 t o hlt hx17 hw hd ⟨h, pq⟩
  refine pn pq ?_
  rw [gl_eq9_1] at h
  exact cls
 rintro t o ⟨q9, rfl, pq⟩
 refine pnq pq ?_
 exact cls
theorem d_de9 : OkC [] c_de9 if_de9 ks_de9 := by
 refine ok fun G H a0 r h => ?_
 refine st1 fun bs t o => ?_
 dsimp only [gf_de9] at h
 exact cls
theorem d_dn9 : OkC [c_de9] c_dn9 if_dn9 ks_dn9 := by
 refine ok fun G H a0 r h => ?_
 refine st1 fun bs t o => ?_
 dsimp only [gf_dn9] at h
 exact cls
theorem d_dw9 : OkC [c_dn9] c_dw9 if_dw9 ks_dw9 := by
 refine ok fun G H a0 r h => ?_
 refine st1 fun bs t o => ?_
 dsimp only [gf_dw9] at h
 try (refine gx ?_; intros; rename_i h)
 obtain ⟨hf, h⟩ := gd h
 obtain ⟨q42, hq, h⟩ := bnd h
 refine w_lastK [] [] (fun K J t o => ∃ b67 c68, PP ((3, .ref 40 b67 c68 0 q42.length 100) :: K) ((40, ent b67 c68 100 (List.map (eFeat true) q42)) :: J) t o) ?_ ?_
 ·refine w_lpL (xs := a0) [0] [] 0 hf (fun K J l49 k47 t o => ∃ v44 b45 c46, gl_dw9_1 l49 k47 v44 = some q42 ∧ PP ((3, .ref 40 b45 c46 0 v44.length 100) :: (4, .v (.int .i64 (k47 : Int))) :: K) ((40, ent b45 c46 100 (List.map (eFeat true) v44)) :: J) t o) ?_ ?_ ?_
  ·exact ⟨_, _, _, hq, pin, pinh⟩
  ·rintro k47 t o hlt ⟨v44, b45, c46, h, pq⟩
   refine pn pq ?_
   rw [gl_dw9_1] at h
   exact cls
  rintro x48 l49 k47 t o hlt hx53 hw hd ⟨v44, b45, c46, h, pq⟩
  refine pn pq ?_
  rw [gl_dw9_1] at h
  exact cls
 rintro t o ⟨b67, c68, pq⟩
 refine pnq pq ?_
 exact cls
theorem d_eu9 : OkC [c_dw9] c_eu9 if_eu9 ks_eu9 := by
 refine ok fun G H a0 r h => ?_
 refine st1 fun bs t o => ?_
 dsimp only [gf_eu9] at h
 exact cls
theorem d_cr9 : OkC [c_ex9, c_cv9, c_cx9, c_eo9, c_eq9] c_cr9 if_cr9 ks_cr9 := by
 refine ok fun G H a0 r h => ?_
 refine st1 fun bs t o => ?_
 dsimp only [gf_cr9] at h
 try (refine gx ?_; intros; rename_i h)
 obtain ⟨hf, h⟩ := gd h
 obtain ⟨q36, hq, h⟩ := bnd h
 refine w_lastK [1] [8] (fun K J t o => ∃ q36_, q36 = .inr q36_ ∧ PP K J t o) ?_ ?_
 ·have ho1 := h
  refine w_lpL (xs := a0.commits) [1] [8] 0 hf (fun K J l40 k38 t o => gl_cr9_1 a0 l40 k38  = some q36 ∧ PP ((3, .v (.int .i64 (k38 : Int))) :: K) J t o) ?_ ?_ ?_
  ·exact ⟨hq, pin, pinh⟩
  ·rintro k38 t o hlt ⟨h, pq⟩
   refine pn pq ?_
   rw [gl_cr9_1] at h
   exact cls
  rintro x39 l40 k38 t o hlt hx44 hw hd ⟨h, pq⟩
  refine pn pq ?_
  rw [gl_cr9_1] at h
  exact cls
 rintro t o ⟨q36, rfl, pq⟩
 refine pnq pq ?_
 try (refine gx ?_; intros; rename_i h)
 obtain ⟨hf, h⟩ := gd h
 obtain ⟨q78, hq, h⟩ := bnd h
 refine w_lastK [] [] (fun K J t o => ∃ q78_, q78 = .inr q78_ ∧ PP K J t o) ?_ ?_
 ·have ho1 := h
  refine w_lpL (xs := a0.heads) [1] [8] 0 hf (fun K J l82 k80 t o => gl_cr9_2 a0 l82 k80  = some q78 ∧ PP ((5, .v (.int .i64 (k80 : Int))) :: K) J t o) ?_ ?_ ?_
  ·exact ⟨hq, pin, pinh⟩
  ·rintro k80 t o hlt ⟨h, pq⟩
   refine pn pq ?_
   rw [gl_cr9_2] at h
   exact cls
  rintro x81 l82 k80 t o hlt hx86 hw hd ⟨h, pq⟩
  refine pn pq ?_
  rw [gl_cr9_2] at h
  exact cls
 rintro t o ⟨q78, rfl, pq⟩
 refine pnq pq ?_
 exact cls
theorem d_dz9 : OkC [] c_dz9 if_dz9 ks_dz9 := by
 refine ok fun G H ⟨a0, a1⟩ r h => ?_
 refine st1 fun bs t o => ?_
 dsimp only [gf_dz9] at h
 try (refine gx ?_; intros; rename_i h)
 obtain ⟨hf, h⟩ := gd h
 obtain ⟨q81, hq, h⟩ := bnd h
 refine w_lastK [3] [24] (fun K J t o => ∃ b115 c116, PP ((5, .ref 64 b115 c116 0 q81.2.length 100) :: (6, .v (.bool q81.1)) :: K) ((64, ent b115 c116 100 (List.map (eFeat false) q81.2)) :: J) t o) ?_ ?_
 ·refine w_lpL (xs := a0) [0, 3] [24] 0 hf (fun K J l89 k87 t o => ∃ v82 v84 b85 c86, gl_dz9_1 a1 l89 k87 v82 v84 = some q81 ∧ PP ((5, .ref 64 b85 c86 0 v84.length 100) :: (6, .v (.bool v82)) :: (7, .v (.int .i64 (k87 : Int))) :: K) ((64, ent b85 c86 100 (List.map (eFeat false) v84)) :: J) t o) ?_ ?_ ?_
  ·exact ⟨_, _, _, _, hq, pin, pinh⟩
  ·rintro k87 t o hlt ⟨v82, v84, b85, c86, h, pq⟩
   refine pn pq ?_
   rw [gl_dz9_1] at h
   exact cls
  rintro x88 l89 k87 t o hlt hx93 hw hd ⟨v82, v84, b85, c86, h, pq⟩
  refine pn pq ?_
  rw [gl_dz9_1] at h
  try (refine gx ?_; intros; rename_i h)
  obtain ⟨q100, hq, h⟩ := bnd h
  refine w_cutK [0, 3, 7] [24] (fun K J t o => ∃ b107 c108, PP ((5, .ref 64 b107 c108 0 q100.2.length 100) :: (6, .v (.bool q100.1)) :: K) ((64, ent b107 c108 100 (List.map (eFeat false) q100.2)) :: J) t o) ?_ ?_
  ·have h := hq
   exact cls
  rintro t o ⟨b107, c108, pq⟩
  refine pn pq ?_
  exact cls
 rintro t o ⟨b115, c116, pq⟩
 refine pnq pq ?_
 exact cls
theorem d_ef9 : OkC [c_dz9] c_ef9 if_ef9 ks_ef9 := by
 refine ok fun G H ⟨a0, a1⟩ r h => ?_
 refine st1 fun bs t o => ?_
 dsimp only [gf_ef9] at h
 try (refine gx ?_; intros; rename_i h)
 obtain ⟨hf, h⟩ := gd h
 obtain ⟨q21, hq, h⟩ := bnd h
 refine w_lastK [] [] (fun K J t o => PP ((5, .ro (List.map (eFeat false) q21)) :: K) J t o) ?_ ?_
 ·refine w_lpL (xs := a1) [1] [] 0 hf (fun K J l26 k24 t o => ∃ v22, gl_ef9_1 l26 k24 v22 = some q21 ∧ PP ((5, .ro (List.map (eFeat false) v22)) :: (6, .v (.int .i64 (k24 : Int))) :: K) J t o) ?_ ?_ ?_
  ·exact ⟨_, hq, pin, pinh⟩
  ·rintro k24 t o hlt ⟨v22, h, pq⟩
   refine pn pq ?_
   rw [gl_ef9_1] at h
   exact cls
  rintro x25 l26 k24 t o hlt hx30 hw hd ⟨v22, h, pq⟩
  refine pn pq ?_
  rw [gl_ef9_1] at h
  exact cls
 rintro t o pq
 refine pnq pq ?_
 try (refine gx ?_; intros; rename_i h)
 obtain ⟨hf, h⟩ := gd h
 obtain ⟨q61, hq, h⟩ := bnd h
 refine w_lastK [] [] (fun K J t o => ∃ b80 c81, PP ((7, .ref 176 b80 c81 0 q61.length 49) :: K) ((176, ent b80 c81 49 (List.map eStr q61)) :: J) t o) ?_ ?_
 ·refine w_lpL (xs := q21) [5] [] 0 hf (fun K J l68 k66 t o => ∃ v63 b64 c65, gl_ef9_2 l68 k66 v63 = some q61 ∧ PP ((7, .ref 176 b64 c65 0 v63.length 49) :: (8, .v (.int .i64 (k66 : Int))) :: K) ((176, ent b64 c65 49 (List.map eStr v63)) :: J) t o) ?_ ?_ ?_
  ·exact ⟨_, _, _, hq, pin, pinh⟩
  ·rintro k66 t o hlt ⟨v63, b64, c65, h, pq⟩
   refine pn pq ?_
   rw [gl_ef9_2] at h
   exact cls
  rintro x67 l68 k66 t o hlt hx72 hw hd ⟨v63, b64, c65, h, pq⟩
  refine pn pq ?_
  rw [gl_ef9_2] at h
  exact cls
 rintro t o ⟨b80, c81, pq⟩
 refine pnq pq ?_
 exact cls
theorem d_dy9 : OkC [] c_dy9 if_dy9 ks_dy9 := by
 refine ok fun G H ⟨a0, a1⟩ r h => ?_
 refine st1 fun bs t o => ?_
 dsimp only [gf_dy9] at h
 try (refine gx ?_; intros; rename_i h)
 obtain ⟨hf, h⟩ := gd h
 obtain ⟨q8, hq, h⟩ := bnd h
 refine w_lastK [] [] (fun K J t o => ∃ q8_, q8 = .inr q8_ ∧ PP K J t o) ?_ ?_
 ·have ho1 := h
  refine w_lpL (xs := a0) [0, 1] [] 0 hf (fun K J l12 k10 t o => gl_dy9_1 a1 l12 k10  = some q8 ∧ PP ((5, .v (.int .i64 (k10 : Int))) :: K) J t o) ?_ ?_ ?_
  ·exact ⟨hq, pin, pinh⟩
  ·rintro k10 t o hlt ⟨h, pq⟩
   refine pn pq ?_
   rw [gl_dy9_1] at h
   exact cls
  rintro x11 l12 k10 t o hlt hx16 hw hd ⟨h, pq⟩
  refine pn pq ?_
  rw [gl_dy9_1] at h
  exact cls
 rintro t o ⟨q8, rfl, pq⟩
 refine pnq pq ?_
 exact cls
theorem d_dr9 : OkC [] c_dr9 if_dr9 ks_dr9 := by
 refine ok fun G H ⟨a0, a1, a2⟩ r h => ?_
 refine st1 fun bs t o => ?_
 dsimp only [gf_dr9] at h
 try (refine gx ?_; intros; rename_i h)
 obtain ⟨hf, h⟩ := gd h
 obtain ⟨q78, hq, h⟩ := bnd h
 refine w_lastK [1, 2] [] (fun K J t o => ∃ b112 c113, PP ((7, .ref 80 b112 c113 0 q78.2.length 82) :: (8, .v (.bool q78.1)) :: K) ((80, ent b112 c113 82 (List.map eTag q78.2)) :: J) t o) ?_ ?_
 ·refine w_lpL (xs := a0) [0, 1, 2] [] 0 hf (fun K J l86 k84 t o => ∃ v79 v81 b82 c83, gl_dr9_1 a1 a2 l86 k84 v79 v81 = some q78 ∧ PP ((7, .ref 80 b82 c83 0 v81.length 82) :: (8, .v (.bool v79)) :: (9, .v (.int .i64 (k84 : Int))) :: K) ((80, ent b82 c83 82 (List.map eTag v81)) :: J) t o) ?_ ?_ ?_
  ·exact ⟨_, _, _, _, hq, pin, pinh⟩
  ·rintro k84 t o hlt ⟨v79, v81, b82, c83, h, pq⟩
   refine pn pq ?_
   rw [gl_dr9_1] at h
   exact cls
  rintro x85 l86 k84 t o hlt hx90 hw hd ⟨v79, v81, b82, c83, h, pq⟩
  refine pn pq ?_
  rw [gl_dr9_1] at h
  try (refine gx ?_; intros; rename_i h)
  obtain ⟨q97, hq, h⟩ := bnd h
  refine w_cutK [0, 1, 2, 9] [] (fun K J t o => ∃ b104 c105, PP ((7, .ref 80 b104 c105 0 q97.2.length 82) :: (8, .v (.bool q97.1)) :: K) ((80, ent b104 c105 82 (List.map eTag q97.2)) :: J) t o) ?_ ?_
  ·have h := hq
   exact cls
  rintro t o ⟨b104, c105, pq⟩
  refine pn pq ?_
  exact cls
 rintro t o ⟨b112, c113, pq⟩
 refine pnq pq ?_
 exact cls
theorem d_ej9 : OkC [c_dy9, c_dn9] c_ej9 if_ej9 ks_ej9 := by
 refine ok fun G H ⟨a0, a1⟩ r h => ?_
 refine st1 fun bs t o => ?_
 dsimp only [gf_ej9] at h
 exact cls
theorem d_el9 : OkC [c_eo9, c_eu9] c_el9 if_el9 ks_el9 := by
 refine ok fun G H ⟨a0, a1, a2⟩ r h => ?_
 refine st1 fun bs t o => ?_
 dsimp only [gf_el9] at h
 refine gx fun x4 h5 => ?_; intros; rename_i h
 refine cnd h rfl rfl (fun h c => ?_) fun h c => ?_
 ·try rw [c]
  refine gx fun x6 h7 h15 x16 h17 => ?_; intros; rename_i h
  refine c_ste (f := eHead) a0.heads (⟨x16.name, (a0.commits.length : Int)⟩ : Head) (idx_get h17).2 ?_
  exact cls
 try rw [c]
 refine gx fun x18 h19 => ?_; intros; rename_i h
 refine c_ste (f := eHead) a0.heads (⟨x18.name, x4⟩ : Head) (idx_get h19).2 ?_
 exact cls
theorem d_en9 : OkC [c_eu9] c_en9 if_en9 ks_en9 := by
 refine ok fun G H a0 r h => ?_
 refine st1 fun bs t o => ?_
 dsimp only [gf_en9] at h
 refine gx fun h6 => ?_; intros; rename_i h
 obtain ⟨hf, h⟩ := gd h
 obtain ⟨q49, hq, h⟩ := bnd h
 refine w_lastK [2] [1000256, 1000257, 16] (fun K J t o => ∃ b75 c76 b4 c5 b77, PP ((3, .ptr 24 b77 210 0 0) :: K) ((1000384, ent b75 c76 115 (List.map (eCommit true) q49)) :: (1000385, ent b4 c5 130 (List.map eHead ([] ++ a0.heads))) :: (24, ⟨b77, 1, 210, true, [[.al 1000384 b75 c76 0 q49.length 115, .al 1000385 b4 c5 0 ([] ++ a0.heads).length 130]]⟩) :: J) t o) ?_ ?_
 ·refine w_lpL (xs := a0.commits) [1, 2] [8, 1000256, 1000257, 16] 0 hf (fun K J l57 k55 t o => ∃ v51 b52 c53 b4 c5 b54, gl_en9_1 l57 k55 v51 = some q49 ∧ PP ((3, .ptr 24 b54 210 0 0) :: (4, .v (.int .i64 (k55 : Int))) :: K) ((1000384, ent b52 c53 115 (List.map (eCommit true) v51)) :: (1000385, ent b4 c5 130 (List.map eHead ([] ++ a0.heads))) :: (24, ⟨b54, 1, 210, true, [[.al 1000384 b52 c53 0 v51.length 115, .al 1000385 b4 c5 0 ([] ++ a0.heads).length 130]]⟩) :: J) t o) ?_ ?_ ?_
  ·exact ⟨_, _, _, _, _, _, hq, pin, pinh⟩
  ·rintro k55 t o hlt ⟨v51, b52, c53, b4, c5, b54, h, pq⟩
   refine pn pq ?_
   rw [gl_en9_1] at h
   exact cls
  rintro x56 l57 k55 t o hlt hx61 hw hd ⟨v51, b52, c53, b4, c5, b54, h, pq⟩
  refine pn pq ?_
  rw [gl_en9_1] at h
  exact cls
 rintro t o ⟨b75, c76, b4, c5, b77, pq⟩
 refine pnq pq ?_
 exact cls
theorem d_bn9 : OkC [] c_bn9 if_bn9 ks_bn9 := by
 refine ok fun G H ⟨a0, a1, a2⟩ r h => ?_
 refine st1 fun bs t o => ?_
 dsimp only [gf_bn9] at h
 exact cls
theorem d_bj9 : OkC [c_bn9] c_bj9 if_bj9 ks_bj9 := by
 refine ok fun G H a0 r h => ?_
 refine st1 fun bs t o => ?_
 dsimp only [gf_bj9] at h
 exact cls
theorem d_az9 : OkC [c_bn9] c_az9 if_az9 ks_az9 := by
 refine ok fun G H a0 r h => ?_
 refine st1 fun bs t o => ?_
 dsimp only [gf_az9] at h
 try (refine gx ?_; intros; rename_i h)
 obtain ⟨hf, h⟩ := gd h
 obtain ⟨q8, hq, h⟩ := bnd h
 refine w_lastK [0] [] (fun K J t o => ∃ q8_, q8 = .inr q8_ ∧ PP K J t o) ?_ ?_
 ·have ho1 := h
  refine w_lpB (xs := a0) [0, 5] [] 0 hf (fun K J l12 k10 t o => gl_az9_1 l12 k10  = some q8 ∧ PP ((6, .v (.int .i64 (k10 : Int))) :: K) J t o) ?_ ?_ ?_
  ·exact ⟨hq, pin, pinh⟩
  ·rintro k10 t o hlt ⟨h, pq⟩
   refine pn pq ?_
   rw [gl_az9_1] at h
   exact cls
  rintro x11 l12 k10 t o hlt hx16 hw hd ⟨h, pq⟩
  refine pn pq ?_
  rw [gl_az9_1] at h
  exact cls
 rintro t o ⟨q8, rfl, pq⟩
 refine pnq pq ?_
 exact cls
theorem d_au9 : OkC [c_bj9, c_bn9] c_au9 if_au9 ks_au9 := by
 refine ok fun G H a0 r h => ?_
 refine st1 fun bs t o => ?_
 dsimp only [gf_au9] at h
 try (refine gx ?_; intros; rename_i h)
 obtain ⟨hf, h⟩ := gd h
 obtain ⟨q22, hq, h⟩ := bnd h
 refine w_lastK [1] [8] (fun K J t o => ∃ q22_, q22 = .inr q22_ ∧ PP K J t o) ?_ ?_
 ·have ho1 := h
  refine w_lpL (xs := a0.pts) [1, 7, 8] [8] 0 hf (fun K J l26 k24 t o => gl_au9_1 a0 l26 k24  = some q22 ∧ PP ((9, .v (.int .i64 (k24 : Int))) :: K) J t o) ?_ ?_ ?_
  ·exact ⟨hq, pin, pinh⟩
  ·rintro k24 t o hlt ⟨h, pq⟩
   refine pn pq ?_
   rw [gl_au9_1] at h
   exact cls
  rintro x25 l26 k24 t o hlt hx30 hw hd ⟨h, pq⟩
  refine pn pq ?_
  rw [gl_au9_1] at h
  exact cls
 rintro t o ⟨q22, rfl, pq⟩
 refine pnq pq ?_
 exact cls
theorem d_af9 : OkC [c_az9, c_au9] c_af9 if_af9 ks_af9 := by
 refine ok fun G H a0 r h => ?_
 refine st1 fun bs t o => ?_
 dsimp only [gf_af9] at h
 try (refine gx ?_; intros; rename_i h)
 obtain ⟨hf, h⟩ := gd h
 obtain ⟨q28, hq, h⟩ := bnd h
 refine w_lastK [1] [8] (fun K J t o => ∃ q28_, q28 = .inr q28_ ∧ PP K J t o) ?_ ?_
 ·have ho1 := h
  refine w_lpL (xs := a0.tags) [1, 6, 7] [8] 0 hf (fun K J l32 k30 t o => gl_af9_1 a0 l32 k30  = some q28 ∧ PP ((8, .v (.int .i64 (k30 : Int))) :: K) J t o) ?_ ?_ ?_
  ·exact ⟨hq, pin, pinh⟩
  ·rintro k30 t o hlt ⟨h, pq⟩
   refine pn pq ?_
   rw [gl_af9_1] at h
   exact cls
  rintro x31 l32 k30 t o hlt hx36 hw hd ⟨h, pq⟩
  refine pn pq ?_
  rw [gl_af9_1] at h
  exact cls
 rintro t o ⟨q28, rfl, pq⟩
 refine pnq pq ?_
 exact cls
theorem d_bt9 : OkC [] c_bt9 if_bt9 ks_bt9 := by
 refine ok fun G H ⟨a0, a1⟩ r h => ?_
 refine st1 fun bs t o => ?_
 dsimp only [gf_bt9] at h
 try (refine gx ?_; intros; rename_i h)
 obtain ⟨hf, h⟩ := gd h
 obtain ⟨q14, hq, h⟩ := bnd h
 refine w_lastK [] [] (fun K J t o => ∃ q14_, q14 = .inr q14_ ∧ PP K J t o) ?_ ?_
 ·have ho1 := h
  refine w_lpL (xs := a0) [0, 1, 12] [] 0 hf (fun K J l18 k16 t o => gl_bt9_1 a1 l18 k16  = some q14 ∧ PP ((13, .v (.int .i64 (k16 : Int))) :: K) J t o) ?_ ?_ ?_
  ·exact ⟨hq, pin, pinh⟩
  ·rintro k16 t o hlt ⟨h, pq⟩
   refine pn pq ?_
   rw [gl_bt9_1] at h
   exact cls
  rintro x17 l18 k16 t o hlt hx22 hw hd ⟨h, pq⟩
  refine pn pq ?_
  rw [gl_bt9_1] at h
  exact cls
 rintro t o ⟨q14, rfl, pq⟩
 refine pnq pq ?_
 exact cls
theorem d_av9 : OkC [c_bt9] c_av9 if_av9 ks_av9 := by
 refine ok fun G H ⟨a0, a1⟩ r h => ?_
 refine st1 fun bs t o => ?_
 dsimp only [gf_av9] at h
 exact cls
theorem d_bu9 : OkC [] c_bu9 if_bu9 ks_bu9 := by
 refine ok fun G H ⟨a0, a1⟩ r h => ?_
 refine st1 fun bs t o => ?_
 dsimp only [gf_bu9] at h
 try (refine gx ?_; intros; rename_i h)
 obtain ⟨hf, h⟩ := gd h
 obtain ⟨q14, hq, h⟩ := bnd h
 refine w_lastK [] [] (fun K J t o => ∃ q14_, q14 = .inr q14_ ∧ PP K J t o) ?_ ?_
 ·have ho1 := h
  refine w_lpL (xs := a0) [0, 1, 12] [] 0 hf (fun K J l18 k16 t o => gl_bu9_1 a1 l18 k16  = some q14 ∧ PP ((13, .v (.int .i64 (k16 : Int))) :: K) J t o) ?_ ?_ ?_
  ·exact ⟨hq, pin, pinh⟩
  ·rintro k16 t o hlt ⟨h, pq⟩
   refine pn pq ?_
   rw [gl_bu9_1] at h
   exact cls
  rintro x17 l18 k16 t o hlt hx22 hw hd ⟨h, pq⟩
  refine pn pq ?_
  rw [gl_bu9_1] at h
  exact cls
 rintro t o ⟨q14, rfl, pq⟩
 refine pnq pq ?_
 exact cls
theorem d_ag9 : OkC [c_av9, c_bu9] c_ag9 if_ag9 ks_ag9 := by
 refine ok fun G H ⟨a0, a1⟩ r h => ?_
 refine st1 fun bs t o => ?_
 dsimp only [gf_ag9] at h
 exact cls
theorem d_bs9 : OkC [c_ag9] c_bs9 if_br9 ks_br9 := by
 refine ok fun G H ⟨a0, a1⟩ r h => ?_
 have H_ag9 := H _ (.head _)
 replace H := hpre 0 H
 refine st1 fun bs t o => ?_
 dsimp only [gf_bs9] at h
 try (refine gx ?_; intros; rename_i h)
 obtain ⟨hf, h⟩ := gd h
 obtain ⟨q26, hq, h⟩ := bnd h
 refine w_lastK [] [] (fun K J t o => ∃ q26_, q26 = .inr q26_ ∧ PP K J t o) ?_ ?_
 ·have ho1 := h
  refine w_lpL (xs := a0) [1, 2, 15, 16] [] 0 hf (fun K J l30 k28 t o => gl_bs9_1 a1 l30 k28  = some q26 ∧ PP ((17, .v (.int .i64 (k28 : Int))) :: K) J t o) ?_ ?_ ?_
  ·exact ⟨hq, pin, pinh⟩
  ·rintro k28 t o hlt ⟨h, pq⟩
   refine pn pq ?_
   rw [gl_bs9_1] at h
   exact cls
  rintro x29 l30 k28 t o hlt hx34 hw hd ⟨h, pq⟩
  refine pn pq ?_
  rw [gl_bs9_1] at h
  refine gx fun x38 h39 => ?_; intros; rename_i h
  obtain ⟨x41, h42, h⟩ := bnd h
  refine c_calld (c := c_ag9) (x29, x38) H_ag9 h42 fun ch => ?_
  exact cls
 rintro t o ⟨q26, rfl, pq⟩
 refine pnq pq ?_
 exact cls
end Go.Proofs.AM
