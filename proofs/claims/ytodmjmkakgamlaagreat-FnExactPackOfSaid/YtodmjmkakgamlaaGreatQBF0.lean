/- Lemmas of the proof (QBF0), on an abstract machine. Conditions: none. -/
import Derived.Test.YtodmjmkakgamlaaGreatQBD
set_option linter.unusedVariables false
set_option maxRecDepth 100000
set_option maxHeartbeats 4000000
namespace Go.Proofs.AM
attribute [local irreducible] vwp vstps vstpLs vstp vdo vret kseq kblk kloop kend kcut kloop2 frzV renV shutK pfzV trnV unrV
theorem d_cn9 : OkC [] c_cn9 if_cn9 ks_cn9 := by
 refine ok fun G H ⟨a0, a1⟩ r h => ?_
 refine st1 fun bs t o => ?_
 dsimp only [gf_cn9] at h
 exact cls
theorem d_cq9 : OkC [] c_cq9 if_cq9 ks_cq9 := by
 refine ok fun G H ⟨a0, a1⟩ r h => ?_
 refine st1 fun bs t o => ?_
 dsimp only [gf_cq9] at h
 exact cls
theorem d_cp9 : OkC [c_cn9] c_cp9 if_cp9 ks_cp9 := by
 refine ok fun G H ⟨a0, a1⟩ r h => ?_
 refine st1 fun bs t o => ?_
 dsimp only [gf_cp9] at h
 exact cls
theorem d_cr9 : OkC [c_cq9] c_cr9 if_cr9 ks_cr9 := by
 refine ok fun G H ⟨a0, a1⟩ r h => ?_
 refine st1 fun bs t o => ?_
 dsimp only [gf_cr9] at h
 try (refine gx ?_; intros; rename_i h)
 obtain ⟨hf, h⟩ := gd h
 obtain ⟨q15, hq, h⟩ := bnd h
 refine w_lastK [] [] (fun K J t o => ∃ q15_, q15 = .inr q15_ ∧ PP ((1, .v (.int .i64 q15_)) :: K) J t o) ?_ ?_
 ·have ho1 := h
  refine w_lpL (xs := a0) [0] [] 0 hf (fun K J l20 k18 t o => ∃ v16, gl_cr9_1 l20 k18 v16 = some q15 ∧ PP ((1, .v (.int .i64 v16)) :: (5, .v (.int .i64 (k18 : Int))) :: K) J t o) ?_ ?_ ?_
  ·exact ⟨_, hq, pin, pinh⟩
  ·rintro k18 t o hlt ⟨v16, h, pq⟩
   refine pn pq ?_
   rw [gl_cr9_1] at h
   exact cls
  rintro x19 l20 k18 t o hlt hx24 hw hd ⟨v16, h, pq⟩
  refine pn pq ?_
  rw [gl_cr9_1] at h
  exact cls
 rintro t o ⟨q15, rfl, pq⟩
 refine pnq pq ?_
 exact cls
theorem d_ci9 : OkC [c_cp9, c_cr9] c_ci9 if_ci9 ks_ci9 := by
 refine ok fun G H ⟨a0, a1⟩ r h => ?_
 refine st1 fun bs t o => ?_
 dsimp only [gf_ci9] at h
 exact cls
theorem d_cm9 : OkC [] c_cm9 if_cm9 ks_cm9 := by
 refine ok fun G H ⟨a0, a1⟩ r h => ?_
 refine st1 fun bs t o => ?_
 dsimp only [gf_cm9] at h
 exact cls
theorem d_cj9 : OkC [c_ci9] c_cj9 if_cj9 ks_cj9 := by
 refine ok fun G H ⟨a0, a1⟩ r h => ?_
 refine st1 fun bs t o => ?_
 dsimp only [gf_cj9] at h
 try (refine gx ?_; intros; rename_i h)
 obtain ⟨hf, h⟩ := gd h
 obtain ⟨q15, hq, h⟩ := bnd h
 refine w_lastK [] [] (fun K J t o => ∃ q15_, q15 = .inr q15_ ∧ PP ((1, .v (.int .i64 q15_)) :: K) J t o) ?_ ?_
 ·have ho1 := h
  refine w_lpL (xs := a0) [0] [] 0 hf (fun K J l20 k18 t o => ∃ v16, gl_cj9_1 l20 k18 v16 = some q15 ∧ PP ((1, .v (.int .i64 v16)) :: (5, .v (.int .i64 (k18 : Int))) :: K) J t o) ?_ ?_ ?_
  ·exact ⟨_, hq, pin, pinh⟩
  ·rintro k18 t o hlt ⟨v16, h, pq⟩
   refine pn pq ?_
   rw [gl_cj9_1] at h
   exact cls
  rintro x19 l20 k18 t o hlt hx24 hw hd ⟨v16, h, pq⟩
  refine pn pq ?_
  rw [gl_cj9_1] at h
  exact cls
 rintro t o ⟨q15, rfl, pq⟩
 refine pnq pq ?_
 exact cls
theorem d_cg9 : OkC [c_cm9, c_cj9] c_cg9 if_cg9 ks_cg9 := by
 refine ok fun G H ⟨a0, a1⟩ r h => ?_
 refine st1 fun bs t o => ?_
 dsimp only [gf_cg9] at h
 exact cls
theorem d_ck9 : OkC [] c_ck9 if_ck9 ks_ck9 := by
 refine ok fun G H ⟨a0, a1⟩ r h => ?_
 refine st1 fun bs t o => ?_
 dsimp only [gf_ck9] at h
 exact cls
theorem d_ch9 : OkC [c_cg9] c_ch9 if_ch9 ks_ch9 := by
 refine ok fun G H ⟨a0, a1⟩ r h => ?_
 refine st1 fun bs t o => ?_
 dsimp only [gf_ch9] at h
 try (refine gx ?_; intros; rename_i h)
 obtain ⟨hf, h⟩ := gd h
 obtain ⟨q15, hq, h⟩ := bnd h
 refine w_lastK [] [] (fun K J t o => ∃ q15_, q15 = .inr q15_ ∧ PP ((1, .v (.int .i64 q15_)) :: K) J t o) ?_ ?_
 ·have ho1 := h
  refine w_lpL (xs := a0) [0] [] 0 hf (fun K J l20 k18 t o => ∃ v16, gl_ch9_1 l20 k18 v16 = some q15 ∧ PP ((1, .v (.int .i64 v16)) :: (5, .v (.int .i64 (k18 : Int))) :: K) J t o) ?_ ?_ ?_
  ·exact ⟨_, hq, pin, pinh⟩
  ·rintro k18 t o hlt ⟨v16, h, pq⟩
   refine pn pq ?_
   rw [gl_ch9_1] at h
   exact cls
  rintro x19 l20 k18 t o hlt hx24 hw hd ⟨v16, h, pq⟩
  refine pn pq ?_
  rw [gl_ch9_1] at h
  exact cls
 rintro t o ⟨q15, rfl, pq⟩
 refine pnq pq ?_
 exact cls
theorem d_cl9 : OkC [c_ck9] c_cl9 if_cl9 ks_cl9 := by
 refine ok fun G H ⟨a0, a1⟩ r h => ?_
 refine st1 fun bs t o => ?_
 dsimp only [gf_cl9] at h
 try (refine gx ?_; intros; rename_i h)
 obtain ⟨hf, h⟩ := gd h
 obtain ⟨q15, hq, h⟩ := bnd h
 refine w_lastK [] [] (fun K J t o => ∃ q15_, q15 = .inr q15_ ∧ PP ((1, .v (.int .i64 q15_)) :: K) J t o) ?_ ?_
 ·have ho1 := h
  refine w_lpL (xs := a0) [0] [] 0 hf (fun K J l20 k18 t o => ∃ v16, gl_cl9_1 l20 k18 v16 = some q15 ∧ PP ((1, .v (.int .i64 v16)) :: (5, .v (.int .i64 (k18 : Int))) :: K) J t o) ?_ ?_ ?_
  ·exact ⟨_, hq, pin, pinh⟩
  ·rintro k18 t o hlt ⟨v16, h, pq⟩
   refine pn pq ?_
   rw [gl_cl9_1] at h
   exact cls
  rintro x19 l20 k18 t o hlt hx24 hw hd ⟨v16, h, pq⟩
  refine pn pq ?_
  rw [gl_cl9_1] at h
  exact cls
 rintro t o ⟨q15, rfl, pq⟩
 refine pnq pq ?_
 exact cls
theorem d_ee9 : OkC [] c_ee9 if_ee9 ks_ee9 := by
 refine ok fun G H a0 r h => ?_
 refine st1 fun bs t o => ?_
 dsimp only [gf_ee9] at h
 exact cls
theorem d_ef9 : OkC [c_ee9] c_ef9 if_ef9 ks_ef9 := by
 refine ok fun G H a0 r h => ?_
 refine st1 fun bs t o => ?_
 dsimp only [gf_ef9] at h
 try (refine gx ?_; intros; rename_i h)
 obtain ⟨hf, h⟩ := gd h
 obtain ⟨q24, hq, h⟩ := bnd h
 refine w_lastK [0] [] (fun K J t o => ∃ q24_, q24 = .inr q24_ ∧ PP K J t o) ?_ ?_
 ·have ho1 := h
  refine w_lpL (xs := a0) [0] [] 0 hf (fun K J l28 k26 t o => gl_ef9_1 a0 l28 k26  = some q24 ∧ PP ((3, .v (.int .i64 (k26 : Int))) :: K) J t o) ?_ ?_ ?_
  ·exact ⟨hq, pin, pinh⟩
  ·rintro k26 t o hlt ⟨h, pq⟩
   refine pn pq ?_
   rw [gl_ef9_1] at h
   exact cls
  rintro x27 l28 k26 t o hlt hx32 hw hd ⟨h, pq⟩
  refine pn pq ?_
  rw [gl_ef9_1] at h
  exact cls
 rintro t o ⟨q24, rfl, pq⟩
 refine pnq pq ?_
 exact cls
theorem d_ec9 : OkC [] c_ec9 if_ec9 ks_ec9 := by
 refine ok fun G H a0 r h => ?_
 refine st1 fun bs t o => ?_
 dsimp only [gf_ec9] at h
 try (refine gx ?_; intros; rename_i h)
 obtain ⟨hf, h⟩ := gd h
 obtain ⟨q8, hq, h⟩ := bnd h
 refine w_lastK [0] [] (fun K J t o => ∃ q8_, q8 = .inr q8_ ∧ PP K J t o) ?_ ?_
 ·have ho1 := h
  refine w_lpB (xs := a0) [0] [] 0 hf (fun K J l12 k10 t o => gl_ec9_1 l12 k10  = some q8 ∧ PP ((3, .v (.int .i64 (k10 : Int))) :: K) J t o) ?_ ?_ ?_
  ·exact ⟨hq, pin, pinh⟩
  ·rintro k10 t o hlt ⟨h, pq⟩
   refine pn pq ?_
   rw [gl_ec9_1] at h
   exact cls
  rintro x11 l12 k10 t o hlt hx16 hw hd ⟨h, pq⟩
  refine pn pq ?_
  rw [gl_ec9_1] at h
  exact cls
 rintro t o ⟨q8, rfl, pq⟩
 refine pnq pq ?_
 exact cls
theorem d_dy9 : OkC [c_ef9] c_dy9 if_dy9 ks_dy9 := by
 refine ok fun G H a0 r h => ?_
 refine st1 fun bs t o => ?_
 dsimp only [gf_dy9] at h
 exact cls
theorem d_ej9 : OkC [c_ec9] c_ej9 if_ej9 ks_ej9 := by
 refine ok fun G H a0 r h => ?_
 refine st1 fun bs t o => ?_
 dsimp only [gf_ej9] at h
 try (refine gx ?_; intros; rename_i h)
 obtain ⟨hf, h⟩ := gd h
 obtain ⟨q24, hq, h⟩ := bnd h
 refine w_lastK [0] [] (fun K J t o => ∃ q24_, q24 = .inr q24_ ∧ PP K J t o) ?_ ?_
 ·have ho1 := h
  refine w_lpL (xs := a0) [0] [] 0 hf (fun K J l28 k26 t o => gl_ej9_1 a0 l28 k26  = some q24 ∧ PP ((3, .v (.int .i64 (k26 : Int))) :: K) J t o) ?_ ?_ ?_
  ·exact ⟨hq, pin, pinh⟩
  ·rintro k26 t o hlt ⟨h, pq⟩
   refine pn pq ?_
   rw [gl_ej9_1] at h
   exact cls
  rintro x27 l28 k26 t o hlt hx32 hw hd ⟨h, pq⟩
  refine pn pq ?_
  rw [gl_ej9_1] at h
  exact cls
 rintro t o ⟨q24, rfl, pq⟩
 refine pnq pq ?_
 exact cls
theorem d_du9 : OkC [c_ec9, c_dy9, c_ej9] c_du9 if_du9 ks_du9 := by
 refine ok fun G H a0 r h => ?_
 refine st1 fun bs t o => ?_
 dsimp only [gf_du9] at h
 exact cls
theorem d_eg9 : OkC [] c_eg9 if_eg9 ks_eg9 := by
 refine ok fun G H ⟨a0, a1⟩ r h => ?_
 refine st1 fun bs t o => ?_
 dsimp only [gf_eg9] at h
 try (refine gx ?_; intros; rename_i h)
 obtain ⟨hf, h⟩ := gd h
 obtain ⟨q14, hq, h⟩ := bnd h
 refine w_lastK [] [] (fun K J t o => ∃ q14_, q14 = .inr q14_ ∧ PP K J t o) ?_ ?_
 ·have ho1 := h
  refine w_lpL (xs := a0) [0, 1] [] 0 hf (fun K J l18 k16 t o => gl_eg9_1 a1 l18 k16  = some q14 ∧ PP ((5, .v (.int .i64 (k16 : Int))) :: K) J t o) ?_ ?_ ?_
  ·exact ⟨hq, pin, pinh⟩
  ·rintro k16 t o hlt ⟨h, pq⟩
   refine pn pq ?_
   rw [gl_eg9_1] at h
   exact cls
  rintro x17 l18 k16 t o hlt hx22 hw hd ⟨h, pq⟩
  refine pn pq ?_
  rw [gl_eg9_1] at h
  exact cls
 rintro t o ⟨q14, rfl, pq⟩
 refine pnq pq ?_
 exact cls
theorem d_dz9 : OkC [c_eg9] c_dz9 if_dz9 ks_dz9 := by
 refine ok fun G H ⟨a0, a1⟩ r h => ?_
 refine st1 fun bs t o => ?_
 dsimp only [gf_dz9] at h
 exact cls
theorem d_ei9 : OkC [] c_ei9 if_ei9 ks_ei9 := by
 refine ok fun G H ⟨a0, a1⟩ r h => ?_
 refine st1 fun bs t o => ?_
 dsimp only [gf_ei9] at h
 try (refine gx ?_; intros; rename_i h)
 obtain ⟨hf, h⟩ := gd h
 obtain ⟨q14, hq, h⟩ := bnd h
 refine w_lastK [] [] (fun K J t o => ∃ q14_, q14 = .inr q14_ ∧ PP K J t o) ?_ ?_
 ·have ho1 := h
  refine w_lpL (xs := a0) [0, 1] [] 0 hf (fun K J l18 k16 t o => gl_ei9_1 a1 l18 k16  = some q14 ∧ PP ((5, .v (.int .i64 (k16 : Int))) :: K) J t o) ?_ ?_ ?_
  ·exact ⟨hq, pin, pinh⟩
  ·rintro k16 t o hlt ⟨h, pq⟩
   refine pn pq ?_
   rw [gl_ei9_1] at h
   exact cls
  rintro x17 l18 k16 t o hlt hx22 hw hd ⟨h, pq⟩
  refine pn pq ?_
  rw [gl_ei9_1] at h
  exact cls
 rintro t o ⟨q14, rfl, pq⟩
 refine pnq pq ?_
 exact cls
theorem d_dv9 : OkC [c_dz9, c_ei9] c_dv9 if_dv9 ks_dv9 := by
 refine ok fun G H ⟨a0, a1⟩ r h => ?_
 refine st1 fun bs t o => ?_
 dsimp only [gf_dv9] at h
 exact cls
theorem d_es9 : OkC [] c_es9 if_es9 ks_es9 := by
 refine ok fun G H ⟨a0, a1⟩ r h => ?_
 refine st1 fun bs t o => ?_
 dsimp only [gf_es9] at h
 try (refine gx ?_; intros; rename_i h)
 obtain ⟨hf, h⟩ := gd h
 obtain ⟨q14, hq, h⟩ := bnd h
 refine w_lastK [] [] (fun K J t o => ∃ q14_, q14 = .inr q14_ ∧ PP K J t o) ?_ ?_
 ·have ho1 := h
  refine w_lpL (xs := a0) [0, 1] [] 0 hf (fun K J l18 k16 t o => gl_es9_1 a1 l18 k16  = some q14 ∧ PP ((5, .v (.int .i64 (k16 : Int))) :: K) J t o) ?_ ?_ ?_
  ·exact ⟨hq, pin, pinh⟩
  ·rintro k16 t o hlt ⟨h, pq⟩
   refine pn pq ?_
   rw [gl_es9_1] at h
   exact cls
  rintro x17 l18 k16 t o hlt hx22 hw hd ⟨h, pq⟩
  refine pn pq ?_
  rw [gl_es9_1] at h
  exact cls
 rintro t o ⟨q14, rfl, pq⟩
 refine pnq pq ?_
 exact cls
theorem d_eb9 : OkC [c_dv9] c_eb9 if_eb9 ks_eb9 := by
 refine ok fun G H ⟨a0, a1⟩ r h => ?_
 refine st1 fun bs t o => ?_
 dsimp only [gf_eb9] at h
 try (refine gx ?_; intros; rename_i h)
 obtain ⟨hf, h⟩ := gd h
 obtain ⟨q20, hq, h⟩ := bnd h
 refine w_lastK [] [] (fun K J t o => ∃ q20_, q20 = .inr q20_ ∧ PP K J t o) ?_ ?_
 ·have ho1 := h
  refine w_lpL (xs := a0) [0, 1] [] 0 hf (fun K J l24 k22 t o => gl_eb9_1 a1 l24 k22  = some q20 ∧ PP ((5, .v (.int .i64 (k22 : Int))) :: K) J t o) ?_ ?_ ?_
  ·exact ⟨hq, pin, pinh⟩
  ·rintro k22 t o hlt ⟨h, pq⟩
   refine pn pq ?_
   rw [gl_eb9_1] at h
   exact cls
  rintro x23 l24 k22 t o hlt hx28 hw hd ⟨h, pq⟩
  refine pn pq ?_
  rw [gl_eb9_1] at h
  exact cls
 rintro t o ⟨q20, rfl, pq⟩
 refine pnq pq ?_
 exact cls
theorem d_et9 : OkC [c_es9, c_eb9] c_et9 if_et9 ks_et9 := by
 refine ok fun G H ⟨a0, a1⟩ r h => ?_
 refine st1 fun bs t o => ?_
 dsimp only [gf_et9] at h
 exact cls
theorem d_eu9 : OkC [] c_eu9 if_eu9 ks_eu9 := by
 refine ok fun G H ⟨a0, a1⟩ r h => ?_
 refine st1 fun bs t o => ?_
 dsimp only [gf_eu9] at h
 try (refine gx ?_; intros; rename_i h)
 obtain ⟨hf, h⟩ := gd h
 obtain ⟨q8, hq, h⟩ := bnd h
 refine w_lastK [0, 1] [] (fun K J t o => ∃ q8_, q8 = .inr q8_ ∧ PP K J t o) ?_ ?_
 ·have ho1 := h
  refine w_lpL (xs := a0) [0, 1] [] 0 hf (fun K J l12 k10 t o => gl_eu9_1 a1 l12 k10  = some q8 ∧ PP ((5, .v (.int .i64 (k10 : Int))) :: K) J t o) ?_ ?_ ?_
  ·exact ⟨hq, pin, pinh⟩
  ·rintro k10 t o hlt ⟨h, pq⟩
   refine pn pq ?_
   rw [gl_eu9_1] at h
   exact cls
  rintro x11 l12 k10 t o hlt hx16 hw hd ⟨h, pq⟩
  refine pn pq ?_
  rw [gl_eu9_1] at h
  exact cls
 rintro t o ⟨q8, rfl, pq⟩
 refine pnq pq ?_
 exact cls
theorem d_ea9 : OkC [c_du9] c_ea9 if_ea9 ks_ea9 := by
 refine ok fun G H a0 r h => ?_
 refine st1 fun bs t o => ?_
 dsimp only [gf_ea9] at h
 try (refine gx ?_; intros; rename_i h)
 obtain ⟨hf, h⟩ := gd h
 obtain ⟨q18, hq, h⟩ := bnd h
 refine w_lastK [0] [] (fun K J t o => ∃ q18_, q18 = .inr q18_ ∧ PP K J t o) ?_ ?_
 ·have ho1 := h
  refine w_lpL (xs := a0) [0] [] 0 hf (fun K J l22 k20 t o => gl_ea9_1 a0 l22 k20  = some q18 ∧ PP ((3, .v (.int .i64 (k20 : Int))) :: K) J t o) ?_ ?_ ?_
  ·exact ⟨hq, pin, pinh⟩
  ·rintro k20 t o hlt ⟨h, pq⟩
   refine pn pq ?_
   rw [gl_ea9_1] at h
   exact cls
  rintro x21 l22 k20 t o hlt hx26 hw hd ⟨h, pq⟩
  refine pn pq ?_
  rw [gl_ea9_1] at h
  exact cls
 rintro t o ⟨q18, rfl, pq⟩
 refine pnq pq ?_
 exact cls
end Go.Proofs.AM
