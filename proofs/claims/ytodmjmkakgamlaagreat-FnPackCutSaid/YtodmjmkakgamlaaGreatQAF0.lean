/- Lemmas of the proof (QAF0), on an abstract machine. Conditions: none. -/
import Derived.Test.YtodmjmkakgamlaaGreatQAD
set_option linter.unusedVariables false
set_option maxRecDepth 100000
set_option maxHeartbeats 4000000
namespace Go.Proofs.AM
attribute [local irreducible] vwp vstps vstpLs vstp vdo vret kseq kblk kloop kend kcut kloop2 frzV renV shutK pfzV trnV unrV
theorem d_cw9 : OkC [] c_cw9 if_cw9 ks_cw9 := by
 refine ok fun G H a0 r h => ?_
 refine st1 fun bs t o => ?_
 dsimp only [gf_cw9] at h
 exact cls
theorem d_cy9 : OkC [c_cw9] c_cy9 if_cy9 ks_cy9 := by
 refine ok fun G H a0 r h => ?_
 refine st1 fun bs t o => ?_
 dsimp only [gf_cy9] at h
 try (refine gx ?_; intros; rename_i h)
 obtain ⟨hf, h⟩ := gd h
 obtain ⟨q24, hq, h⟩ := bnd h
 refine w_lastK [0] [] (fun K J t o => ∃ q24_, q24 = .inr q24_ ∧ PP K J t o) ?_ ?_
 ·have ho1 := h
  refine w_lpL (xs := a0) [0] [] 0 hf (fun K J l28 k26 t o => gl_cy9_1 a0 l28 k26  = some q24 ∧ PP ((3, .v (.int .i64 (k26 : Int))) :: K) J t o) ?_ ?_ ?_
  ·exact ⟨hq, pin, pinh⟩
  ·rintro k26 t o hlt ⟨h, pq⟩
   refine pn pq ?_
   rw [gl_cy9_1] at h
   exact cls
  rintro x27 l28 k26 t o hlt hx32 hw hd ⟨h, pq⟩
  refine pn pq ?_
  rw [gl_cy9_1] at h
  exact cls
 rintro t o ⟨q24, rfl, pq⟩
 refine pnq pq ?_
 exact cls
theorem d_co9 : OkC [] c_co9 if_co9 ks_co9 := by
 refine ok fun G H a0 r h => ?_
 refine st1 fun bs t o => ?_
 dsimp only [gf_co9] at h
 try (refine gx ?_; intros; rename_i h)
 obtain ⟨hf, h⟩ := gd h
 obtain ⟨q8, hq, h⟩ := bnd h
 refine w_lastK [0] [] (fun K J t o => ∃ q8_, q8 = .inr q8_ ∧ PP K J t o) ?_ ?_
 ·have ho1 := h
  refine w_lpB (xs := a0) [0] [] 0 hf (fun K J l12 k10 t o => gl_co9_1 l12 k10  = some q8 ∧ PP ((3, .v (.int .i64 (k10 : Int))) :: K) J t o) ?_ ?_ ?_
  ·exact ⟨hq, pin, pinh⟩
  ·rintro k10 t o hlt ⟨h, pq⟩
   refine pn pq ?_
   rw [gl_co9_1] at h
   exact cls
  rintro x11 l12 k10 t o hlt hx16 hw hd ⟨h, pq⟩
  refine pn pq ?_
  rw [gl_co9_1] at h
  exact cls
 rintro t o ⟨q8, rfl, pq⟩
 refine pnq pq ?_
 exact cls
theorem d_ck9 : OkC [c_cy9] c_ck9 if_ck9 ks_ck9 := by
 refine ok fun G H a0 r h => ?_
 refine st1 fun bs t o => ?_
 dsimp only [gf_ck9] at h
 exact cls
theorem d_di9 : OkC [c_co9] c_di9 if_di9 ks_di9 := by
 refine ok fun G H a0 r h => ?_
 refine st1 fun bs t o => ?_
 dsimp only [gf_di9] at h
 try (refine gx ?_; intros; rename_i h)
 obtain ⟨hf, h⟩ := gd h
 obtain ⟨q24, hq, h⟩ := bnd h
 refine w_lastK [0] [] (fun K J t o => ∃ q24_, q24 = .inr q24_ ∧ PP K J t o) ?_ ?_
 ·have ho1 := h
  refine w_lpL (xs := a0) [0] [] 0 hf (fun K J l28 k26 t o => gl_di9_1 a0 l28 k26  = some q24 ∧ PP ((3, .v (.int .i64 (k26 : Int))) :: K) J t o) ?_ ?_ ?_
  ·exact ⟨hq, pin, pinh⟩
  ·rintro k26 t o hlt ⟨h, pq⟩
   refine pn pq ?_
   rw [gl_di9_1] at h
   exact cls
  rintro x27 l28 k26 t o hlt hx32 hw hd ⟨h, pq⟩
  refine pn pq ?_
  rw [gl_di9_1] at h
  exact cls
 rintro t o ⟨q24, rfl, pq⟩
 refine pnq pq ?_
 exact cls
theorem d_cd9 : OkC [c_co9, c_ck9, c_di9] c_cd9 if_cd9 ks_cd9 := by
 refine ok fun G H a0 r h => ?_
 refine st1 fun bs t o => ?_
 dsimp only [gf_cd9] at h
 exact cls
theorem d_cz9 : OkC [] c_cz9 if_cz9 ks_cz9 := by
 refine ok fun G H ⟨a0, a1⟩ r h => ?_
 refine st1 fun bs t o => ?_
 dsimp only [gf_cz9] at h
 try (refine gx ?_; intros; rename_i h)
 obtain ⟨hf, h⟩ := gd h
 obtain ⟨q14, hq, h⟩ := bnd h
 refine w_lastK [] [] (fun K J t o => ∃ q14_, q14 = .inr q14_ ∧ PP K J t o) ?_ ?_
 ·have ho1 := h
  refine w_lpL (xs := a0) [0, 1] [] 0 hf (fun K J l18 k16 t o => gl_cz9_1 a1 l18 k16  = some q14 ∧ PP ((5, .v (.int .i64 (k16 : Int))) :: K) J t o) ?_ ?_ ?_
  ·exact ⟨hq, pin, pinh⟩
  ·rintro k16 t o hlt ⟨h, pq⟩
   refine pn pq ?_
   rw [gl_cz9_1] at h
   exact cls
  rintro x17 l18 k16 t o hlt hx22 hw hd ⟨h, pq⟩
  refine pn pq ?_
  rw [gl_cz9_1] at h
  exact cls
 rintro t o ⟨q14, rfl, pq⟩
 refine pnq pq ?_
 exact cls
theorem d_cl9 : OkC [c_cz9] c_cl9 if_cl9 ks_cl9 := by
 refine ok fun G H ⟨a0, a1⟩ r h => ?_
 refine st1 fun bs t o => ?_
 dsimp only [gf_cl9] at h
 exact cls
theorem d_dh9 : OkC [] c_dh9 if_dh9 ks_dh9 := by
 refine ok fun G H ⟨a0, a1⟩ r h => ?_
 refine st1 fun bs t o => ?_
 dsimp only [gf_dh9] at h
 try (refine gx ?_; intros; rename_i h)
 obtain ⟨hf, h⟩ := gd h
 obtain ⟨q14, hq, h⟩ := bnd h
 refine w_lastK [] [] (fun K J t o => ∃ q14_, q14 = .inr q14_ ∧ PP K J t o) ?_ ?_
 ·have ho1 := h
  refine w_lpL (xs := a0) [0, 1] [] 0 hf (fun K J l18 k16 t o => gl_dh9_1 a1 l18 k16  = some q14 ∧ PP ((5, .v (.int .i64 (k16 : Int))) :: K) J t o) ?_ ?_ ?_
  ·exact ⟨hq, pin, pinh⟩
  ·rintro k16 t o hlt ⟨h, pq⟩
   refine pn pq ?_
   rw [gl_dh9_1] at h
   exact cls
  rintro x17 l18 k16 t o hlt hx22 hw hd ⟨h, pq⟩
  refine pn pq ?_
  rw [gl_dh9_1] at h
  exact cls
 rintro t o ⟨q14, rfl, pq⟩
 refine pnq pq ?_
 exact cls
theorem d_ce9 : OkC [c_cl9, c_dh9] c_ce9 if_ce9 ks_ce9 := by
 refine ok fun G H ⟨a0, a1⟩ r h => ?_
 refine st1 fun bs t o => ?_
 dsimp only [gf_ce9] at h
 exact cls
theorem d_eg9 : OkC [] c_eg9 if_eg9 ks_eg9 := by
 refine ok fun G H ⟨a0, a1⟩ r h => ?_
 refine st1 fun bs t o => ?_
 dsimp only [gf_eg9] at h
 try (refine gx ?_; intros; rename_i h)
 obtain ⟨hf, h⟩ := gd h
 obtain ⟨q14, hq, h⟩ := bnd h
 refine w_lastK [] [] (fun K J t o => ∃ q14_, q14 = .inr q14_ ∧ PP K J t o) ?_ ?_
 ·have ho1 := h
  refine w_lpL (xs := a0) [0, 1] [] 0 hf (fun K J l18 k16 t o => gl_eg9_1 a1 l18 k16  = some q14 ∧ PP ((5, .v (.int .i64 (k16 : Int))) :: K) J t o) ?_ ?_ ?_
  ·exact ⟨hq, pin, pinh⟩
  ·rintro k16 t o hlt ⟨h, pq⟩
   refine pn pq ?_
   rw [gl_eg9_1] at h
   exact cls
  rintro x17 l18 k16 t o hlt hx22 hw hd ⟨h, pq⟩
  refine pn pq ?_
  rw [gl_eg9_1] at h
  exact cls
 rintro t o ⟨q14, rfl, pq⟩
 refine pnq pq ?_
 exact cls
theorem d_cn9 : OkC [c_ce9] c_cn9 if_cn9 ks_cn9 := by
 refine ok fun G H ⟨a0, a1⟩ r h => ?_
 refine st1 fun bs t o => ?_
 dsimp only [gf_cn9] at h
 try (refine gx ?_; intros; rename_i h)
 obtain ⟨hf, h⟩ := gd h
 obtain ⟨q20, hq, h⟩ := bnd h
 refine w_lastK [] [] (fun K J t o => ∃ q20_, q20 = .inr q20_ ∧ PP K J t o) ?_ ?_
 ·have ho1 := h
  refine w_lpL (xs := a0) [0, 1] [] 0 hf (fun K J l24 k22 t o => gl_cn9_1 a1 l24 k22  = some q20 ∧ PP ((5, .v (.int .i64 (k22 : Int))) :: K) J t o) ?_ ?_ ?_
  ·exact ⟨hq, pin, pinh⟩
  ·rintro k22 t o hlt ⟨h, pq⟩
   refine pn pq ?_
   rw [gl_cn9_1] at h
   exact cls
  rintro x23 l24 k22 t o hlt hx28 hw hd ⟨h, pq⟩
  refine pn pq ?_
  rw [gl_cn9_1] at h
  exact cls
 rintro t o ⟨q20, rfl, pq⟩
 refine pnq pq ?_
 exact cls
theorem d_el9 : OkC [c_eg9, c_cn9] c_el9 if_el9 ks_el9 := by
 refine ok fun G H ⟨a0, a1⟩ r h => ?_
 refine st1 fun bs t o => ?_
 dsimp only [gf_el9] at h
 exact cls
theorem d_em9 : OkC [] c_em9 if_em9 ks_em9 := by
 refine ok fun G H ⟨a0, a1⟩ r h => ?_
 refine st1 fun bs t o => ?_
 dsimp only [gf_em9] at h
 try (refine gx ?_; intros; rename_i h)
 obtain ⟨hf, h⟩ := gd h
 obtain ⟨q8, hq, h⟩ := bnd h
 refine w_lastK [0, 1] [] (fun K J t o => ∃ q8_, q8 = .inr q8_ ∧ PP K J t o) ?_ ?_
 ·have ho1 := h
  refine w_lpL (xs := a0) [0, 1] [] 0 hf (fun K J l12 k10 t o => gl_em9_1 a1 l12 k10  = some q8 ∧ PP ((5, .v (.int .i64 (k10 : Int))) :: K) J t o) ?_ ?_ ?_
  ·exact ⟨hq, pin, pinh⟩
  ·rintro k10 t o hlt ⟨h, pq⟩
   refine pn pq ?_
   rw [gl_em9_1] at h
   exact cls
  rintro x11 l12 k10 t o hlt hx16 hw hd ⟨h, pq⟩
  refine pn pq ?_
  rw [gl_em9_1] at h
  exact cls
 rintro t o ⟨q8, rfl, pq⟩
 refine pnq pq ?_
 exact cls
theorem d_cm9 : OkC [c_cd9] c_cm9 if_cm9 ks_cm9 := by
 refine ok fun G H a0 r h => ?_
 refine st1 fun bs t o => ?_
 dsimp only [gf_cm9] at h
 try (refine gx ?_; intros; rename_i h)
 obtain ⟨hf, h⟩ := gd h
 obtain ⟨q18, hq, h⟩ := bnd h
 refine w_lastK [0] [] (fun K J t o => ∃ q18_, q18 = .inr q18_ ∧ PP K J t o) ?_ ?_
 ·have ho1 := h
  refine w_lpL (xs := a0) [0] [] 0 hf (fun K J l22 k20 t o => gl_cm9_1 a0 l22 k20  = some q18 ∧ PP ((3, .v (.int .i64 (k20 : Int))) :: K) J t o) ?_ ?_ ?_
  ·exact ⟨hq, pin, pinh⟩
  ·rintro k20 t o hlt ⟨h, pq⟩
   refine pn pq ?_
   rw [gl_cm9_1] at h
   exact cls
  rintro x21 l22 k20 t o hlt hx26 hw hd ⟨h, pq⟩
  refine pn pq ?_
  rw [gl_cm9_1] at h
  exact cls
 rintro t o ⟨q18, rfl, pq⟩
 refine pnq pq ?_
 exact cls
theorem d_ed9 : OkC [c_el9] c_ed9 if_ed9 ks_ed9 := by
 refine ok fun G H ⟨a0, a1⟩ r h => ?_
 refine st1 fun bs t o => ?_
 dsimp only [gf_ed9] at h
 try (refine gx ?_; intros; rename_i h)
 obtain ⟨hf, h⟩ := gd h
 obtain ⟨q16, hq, h⟩ := bnd h
 refine w_lastK [] [] (fun K J t o => ∃ q16_, q16 = .inr q16_ ∧ PP K J t o) ?_ ?_
 ·have ho1 := h
  refine w_lpL (xs := a0.commits) [2, 3] [16, 24] 0 hf (fun K J l20 k18 t o => gl_ed9_1 a1 l20 k18  = some q16 ∧ PP ((5, .v (.int .i64 (k18 : Int))) :: K) J t o) ?_ ?_ ?_
  ·exact ⟨hq, pin, pinh⟩
  ·rintro k18 t o hlt ⟨h, pq⟩
   refine pn pq ?_
   rw [gl_ed9_1] at h
   exact cls
  rintro x19 l20 k18 t o hlt hx24 hw hd ⟨h, pq⟩
  refine pn pq ?_
  rw [gl_ed9_1] at h
  exact cls
 rintro t o ⟨q16, rfl, pq⟩
 refine pnq pq ?_
 exact cls
theorem d_ef9 : OkC [] c_ef9 if_ef9 ks_ef9 := by
 refine ok fun G H ⟨a0, a1⟩ r h => ?_
 refine st1 fun bs t o => ?_
 dsimp only [gf_ef9] at h
 try (refine gx ?_; intros; rename_i h)
 obtain ⟨hf, h⟩ := gd h
 obtain ⟨q9, hq, h⟩ := bnd h
 refine w_lastK [] [] (fun K J t o => ∃ q9_, q9 = .inr q9_ ∧ PP K J t o) ?_ ?_
 ·have ho1 := h
  refine w_lpL (xs := a0.heads) [1, 2] [16] 0 hf (fun K J l13 k11 t o => gl_ef9_1 a1 l13 k11  = some q9 ∧ PP ((5, .v (.int .i64 (k11 : Int))) :: K) J t o) ?_ ?_ ?_
  ·exact ⟨hq, pin, pinh⟩
  ·rintro k11 t o hlt ⟨h, pq⟩
   refine pn pq ?_
   rw [gl_ef9_1] at h
   exact cls
  rintro x12 l13 k11 t o hlt hx17 hw hd ⟨h, pq⟩
  refine pn pq ?_
  rw [gl_ef9_1] at h
  exact cls
 rintro t o ⟨q9, rfl, pq⟩
 refine pnq pq ?_
 exact cls
theorem d_cu9 : OkC [] c_cu9 if_cu9 ks_cu9 := by
 refine ok fun G H a0 r h => ?_
 refine st1 fun bs t o => ?_
 dsimp only [gf_cu9] at h
 exact cls
theorem d_dc9 : OkC [c_cu9] c_dc9 if_dc9 ks_dc9 := by
 refine ok fun G H a0 r h => ?_
 refine st1 fun bs t o => ?_
 dsimp only [gf_dc9] at h
 exact cls
theorem d_dl9 : OkC [c_dc9] c_dl9 if_dl9 ks_dl9 := by
 refine ok fun G H a0 r h => ?_
 refine st1 fun bs t o => ?_
 dsimp only [gf_dl9] at h
 try (refine gx ?_; intros; rename_i h)
 obtain ⟨hf, h⟩ := gd h
 obtain ⟨q42, hq, h⟩ := bnd h
 refine w_lastK [] [] (fun K J t o => ∃ b67 c68, PP ((3, .ref 40 b67 c68 0 q42.length 100) :: K) ((40, ent b67 c68 100 (List.map (eFeat true) q42)) :: J) t o) ?_ ?_
 ·refine w_lpL (xs := a0) [0] [] 0 hf (fun K J l49 k47 t o => ∃ v44 b45 c46, gl_dl9_1 l49 k47 v44 = some q42 ∧ PP ((3, .ref 40 b45 c46 0 v44.length 100) :: (4, .v (.int .i64 (k47 : Int))) :: K) ((40, ent b45 c46 100 (List.map (eFeat true) v44)) :: J) t o) ?_ ?_ ?_
  ·exact ⟨_, _, _, hq, pin, pinh⟩
  ·rintro k47 t o hlt ⟨v44, b45, c46, h, pq⟩
   refine pn pq ?_
   rw [gl_dl9_1] at h
   exact cls
  rintro x48 l49 k47 t o hlt hx53 hw hd ⟨v44, b45, c46, h, pq⟩
  refine pn pq ?_
  rw [gl_dl9_1] at h
  exact cls
 rintro t o ⟨b67, c68, pq⟩
 refine pnq pq ?_
 exact cls
theorem d_ej9 : OkC [c_dl9] c_ej9 if_ej9 ks_ej9 := by
 refine ok fun G H a0 r h => ?_
 refine st1 fun bs t o => ?_
 dsimp only [gf_ej9] at h
 exact cls
theorem d_cj9 : OkC [c_em9, c_cm9, c_co9, c_ed9, c_ef9] c_cj9 if_cj9 ks_cj9 := by
 refine ok fun G H a0 r h => ?_
 refine st1 fun bs t o => ?_
 dsimp only [gf_cj9] at h
 try (refine gx ?_; intros; rename_i h)
 obtain ⟨hf, h⟩ := gd h
 obtain ⟨q36, hq, h⟩ := bnd h
 refine w_lastK [1] [8] (fun K J t o => ∃ q36_, q36 = .inr q36_ ∧ PP K J t o) ?_ ?_
 ·have ho1 := h
  refine w_lpL (xs := a0.commits) [1] [8] 0 hf (fun K J l40 k38 t o => gl_cj9_1 a0 l40 k38  = some q36 ∧ PP ((3, .v (.int .i64 (k38 : Int))) :: K) J t o) ?_ ?_ ?_
  ·exact ⟨hq, pin, pinh⟩
  ·rintro k38 t o hlt ⟨h, pq⟩
   refine pn pq ?_
   rw [gl_cj9_1] at h
   exact cls
  rintro x39 l40 k38 t o hlt hx44 hw hd ⟨h, pq⟩
  refine pn pq ?_
  rw [gl_cj9_1] at h
  exact cls
 rintro t o ⟨q36, rfl, pq⟩
 refine pnq pq ?_
 try (refine gx ?_; intros; rename_i h)
 obtain ⟨hf, h⟩ := gd h
 obtain ⟨q78, hq, h⟩ := bnd h
 refine w_lastK [] [] (fun K J t o => ∃ q78_, q78 = .inr q78_ ∧ PP K J t o) ?_ ?_
 ·have ho1 := h
  refine w_lpL (xs := a0.heads) [1] [8] 0 hf (fun K J l82 k80 t o => gl_cj9_2 a0 l82 k80  = some q78 ∧ PP ((5, .v (.int .i64 (k80 : Int))) :: K) J t o) ?_ ?_ ?_
  ·exact ⟨hq, pin, pinh⟩
  ·rintro k80 t o hlt ⟨h, pq⟩
   refine pn pq ?_
   rw [gl_cj9_2] at h
   exact cls
  rintro x81 l82 k80 t o hlt hx86 hw hd ⟨h, pq⟩
  refine pn pq ?_
  rw [gl_cj9_2] at h
  exact cls
 rintro t o ⟨q78, rfl, pq⟩
 refine pnq pq ?_
 exact cls
end Go.Proofs.AM
