/- Lemmas of the proof (TJF0), on an abstract machine. Conditions: none. -/
import Derived.Test.YtnnfdbdheoajgabGreatTJD
set_option linter.unusedVariables false
set_option linter.unusedSimpArgs false
set_option maxRecDepth 100000
set_option maxHeartbeats 4000000
namespace Go.Proofs.AM
attribute [local irreducible] vwp vstps vstpLs vstp vdo vret kseq kblk kloop kend kcut kloop2 frzV renV shutK pfzV trnV unrV
theorem d_dd9 : OkC [] c_dd9 if_dd9 ks_dd9 := by
 refine ok fun G H ⟨a0, a1⟩ r h => ?_
 refine st1 fun bs t o => ?_
 dsimp only [gf_dd9] at h
 exact cls
theorem d_dg9 : OkC [] c_dg9 if_dg9 ks_dg9 := by
 refine ok fun G H ⟨a0, a1⟩ r h => ?_
 refine st1 fun bs t o => ?_
 dsimp only [gf_dg9] at h
 exact cls
theorem d_df9 : OkC [c_dd9] c_df9 if_df9 ks_df9 := by
 refine ok fun G H ⟨a0, a1⟩ r h => ?_
 refine st1 fun bs t o => ?_
 dsimp only [gf_df9] at h
 exact cls
theorem d_dh9 : OkC [c_dg9] c_dh9 if_dh9 ks_dh9 := by
 refine ok fun G H ⟨a0, a1⟩ r h => ?_
 refine st1 fun bs t o => ?_
 dsimp only [gf_dh9] at h
 try (refine gx ?_; intros; rename_i h)
 obtain ⟨hf, h⟩ := gd h
 obtain ⟨q15, hq, h⟩ := bnd h
 refine w_lastK [] [] (fun K J t o => ∃ q15_, q15 = .inr q15_ ∧ PP ((1, .v (.int .i64 q15_)) :: K) J t o) ?_ ?_
 ·have ho1 := h
  refine w_lpL (xs := a0) [0] [] 0 hf (fun K J l20 k18 t o => ∃ v16, gl_dh9_1 l20 k18 v16 = some q15 ∧ PP ((1, .v (.int .i64 v16)) :: (5, .v (.int .i64 (k18 : Int))) :: K) J t o) ?_ ?_ ?_
  ·exact ⟨_, hq, pin, pinh⟩
  ·rintro k18 t o hlt ⟨v16, h, pq⟩
   refine pn pq ?_
   rw [gl_dh9_1] at h
   exact cls
  rintro x19 l20 k18 t o hlt hx24 hw hd ⟨v16, h, pq⟩
  refine pn pq ?_
  rw [gl_dh9_1] at h
  exact cls
 rintro t o ⟨q15, rfl, pq⟩
 refine pnq pq ?_
 exact cls
theorem d_cy9 : OkC [c_df9, c_dh9] c_cy9 if_cy9 ks_cy9 := by
 refine ok fun G H ⟨a0, a1⟩ r h => ?_
 refine st1 fun bs t o => ?_
 dsimp only [gf_cy9] at h
 exact cls
theorem d_dc9 : OkC [] c_dc9 if_dc9 ks_dc9 := by
 refine ok fun G H ⟨a0, a1⟩ r h => ?_
 refine st1 fun bs t o => ?_
 dsimp only [gf_dc9] at h
 exact cls
theorem d_cz9 : OkC [c_cy9] c_cz9 if_cz9 ks_cz9 := by
 refine ok fun G H ⟨a0, a1⟩ r h => ?_
 refine st1 fun bs t o => ?_
 dsimp only [gf_cz9] at h
 try (refine gx ?_; intros; rename_i h)
 obtain ⟨hf, h⟩ := gd h
 obtain ⟨q15, hq, h⟩ := bnd h
 refine w_lastK [] [] (fun K J t o => ∃ q15_, q15 = .inr q15_ ∧ PP ((1, .v (.int .i64 q15_)) :: K) J t o) ?_ ?_
 ·have ho1 := h
  refine w_lpL (xs := a0) [0] [] 0 hf (fun K J l20 k18 t o => ∃ v16, gl_cz9_1 l20 k18 v16 = some q15 ∧ PP ((1, .v (.int .i64 v16)) :: (5, .v (.int .i64 (k18 : Int))) :: K) J t o) ?_ ?_ ?_
  ·exact ⟨_, hq, pin, pinh⟩
  ·rintro k18 t o hlt ⟨v16, h, pq⟩
   refine pn pq ?_
   rw [gl_cz9_1] at h
   exact cls
  rintro x19 l20 k18 t o hlt hx24 hw hd ⟨v16, h, pq⟩
  refine pn pq ?_
  rw [gl_cz9_1] at h
  exact cls
 rintro t o ⟨q15, rfl, pq⟩
 refine pnq pq ?_
 exact cls
theorem d_cw9 : OkC [c_dc9, c_cz9] c_cw9 if_cw9 ks_cw9 := by
 refine ok fun G H ⟨a0, a1⟩ r h => ?_
 refine st1 fun bs t o => ?_
 dsimp only [gf_cw9] at h
 exact cls
theorem d_da9 : OkC [] c_da9 if_da9 ks_da9 := by
 refine ok fun G H ⟨a0, a1⟩ r h => ?_
 refine st1 fun bs t o => ?_
 dsimp only [gf_da9] at h
 exact cls
theorem d_cx9 : OkC [c_cw9] c_cx9 if_cx9 ks_cx9 := by
 refine ok fun G H ⟨a0, a1⟩ r h => ?_
 refine st1 fun bs t o => ?_
 dsimp only [gf_cx9] at h
 try (refine gx ?_; intros; rename_i h)
 obtain ⟨hf, h⟩ := gd h
 obtain ⟨q15, hq, h⟩ := bnd h
 refine w_lastK [] [] (fun K J t o => ∃ q15_, q15 = .inr q15_ ∧ PP ((1, .v (.int .i64 q15_)) :: K) J t o) ?_ ?_
 ·have ho1 := h
  refine w_lpL (xs := a0) [0] [] 0 hf (fun K J l20 k18 t o => ∃ v16, gl_cx9_1 l20 k18 v16 = some q15 ∧ PP ((1, .v (.int .i64 v16)) :: (5, .v (.int .i64 (k18 : Int))) :: K) J t o) ?_ ?_ ?_
  ·exact ⟨_, hq, pin, pinh⟩
  ·rintro k18 t o hlt ⟨v16, h, pq⟩
   refine pn pq ?_
   rw [gl_cx9_1] at h
   exact cls
  rintro x19 l20 k18 t o hlt hx24 hw hd ⟨v16, h, pq⟩
  refine pn pq ?_
  rw [gl_cx9_1] at h
  exact cls
 rintro t o ⟨q15, rfl, pq⟩
 refine pnq pq ?_
 exact cls
theorem d_db9 : OkC [c_da9] c_db9 if_db9 ks_db9 := by
 refine ok fun G H ⟨a0, a1⟩ r h => ?_
 refine st1 fun bs t o => ?_
 dsimp only [gf_db9] at h
 try (refine gx ?_; intros; rename_i h)
 obtain ⟨hf, h⟩ := gd h
 obtain ⟨q15, hq, h⟩ := bnd h
 refine w_lastK [] [] (fun K J t o => ∃ q15_, q15 = .inr q15_ ∧ PP ((1, .v (.int .i64 q15_)) :: K) J t o) ?_ ?_
 ·have ho1 := h
  refine w_lpL (xs := a0) [0] [] 0 hf (fun K J l20 k18 t o => ∃ v16, gl_db9_1 l20 k18 v16 = some q15 ∧ PP ((1, .v (.int .i64 v16)) :: (5, .v (.int .i64 (k18 : Int))) :: K) J t o) ?_ ?_ ?_
  ·exact ⟨_, hq, pin, pinh⟩
  ·rintro k18 t o hlt ⟨v16, h, pq⟩
   refine pn pq ?_
   rw [gl_db9_1] at h
   exact cls
  rintro x19 l20 k18 t o hlt hx24 hw hd ⟨v16, h, pq⟩
  refine pn pq ?_
  rw [gl_db9_1] at h
  exact cls
 rintro t o ⟨q15, rfl, pq⟩
 refine pnq pq ?_
 exact cls
theorem d_fh9 : OkC [] c_fh9 if_fh9 ks_fh9 := by
 refine ok fun G H a0 r h => ?_
 refine st1 fun bs t o => ?_
 dsimp only [gf_fh9] at h
 exact cls
theorem d_fi9 : OkC [c_fh9] c_fi9 if_fi9 ks_fi9 := by
 refine ok fun G H a0 r h => ?_
 refine st1 fun bs t o => ?_
 dsimp only [gf_fi9] at h
 try (refine gx ?_; intros; rename_i h)
 obtain ⟨hf, h⟩ := gd h
 obtain ⟨q24, hq, h⟩ := bnd h
 refine w_lastK [0] [] (fun K J t o => ∃ q24_, q24 = .inr q24_ ∧ PP K J t o) ?_ ?_
 ·have ho1 := h
  refine w_lpL (xs := a0) [0] [] 0 hf (fun K J l28 k26 t o => gl_fi9_1 a0 l28 k26  = some q24 ∧ PP ((3, .v (.int .i64 (k26 : Int))) :: K) J t o) ?_ ?_ ?_
  ·exact ⟨hq, pin, pinh⟩
  ·rintro k26 t o hlt ⟨h, pq⟩
   refine pn pq ?_
   rw [gl_fi9_1] at h
   exact cls
  rintro x27 l28 k26 t o hlt hx32 hw hd ⟨h, pq⟩
  refine pn pq ?_
  rw [gl_fi9_1] at h
  exact cls
 rintro t o ⟨q24, rfl, pq⟩
 refine pnq pq ?_
 exact cls
theorem d_fe9 : OkC [] c_fe9 if_fe9 ks_fe9 := by
 refine ok fun G H a0 r h => ?_
 refine st1 fun bs t o => ?_
 dsimp only [gf_fe9] at h
 try (refine gx ?_; intros; rename_i h)
 obtain ⟨hf, h⟩ := gd h
 obtain ⟨q8, hq, h⟩ := bnd h
 refine w_lastK [0] [] (fun K J t o => ∃ q8_, q8 = .inr q8_ ∧ PP K J t o) ?_ ?_
 ·have ho1 := h
  refine w_lpB (xs := a0) [0] [] 0 hf (fun K J l12 k10 t o => gl_fe9_1 l12 k10  = some q8 ∧ PP ((3, .v (.int .i64 (k10 : Int))) :: K) J t o) ?_ ?_ ?_
  ·exact ⟨hq, pin, pinh⟩
  ·rintro k10 t o hlt ⟨h, pq⟩
   refine pn pq ?_
   rw [gl_fe9_1] at h
   exact cls
  rintro x11 l12 k10 t o hlt hx16 hw hd ⟨h, pq⟩
  refine pn pq ?_
  rw [gl_fe9_1] at h
  exact cls
 rintro t o ⟨q8, rfl, pq⟩
 refine pnq pq ?_
 exact cls
theorem d_ez9 : OkC [c_fi9] c_ez9 if_ez9 ks_ez9 := by
 refine ok fun G H a0 r h => ?_
 refine st1 fun bs t o => ?_
 dsimp only [gf_ez9] at h
 exact cls
theorem d_fo9 : OkC [c_fe9] c_fo9 if_fo9 ks_fo9 := by
 refine ok fun G H a0 r h => ?_
 refine st1 fun bs t o => ?_
 dsimp only [gf_fo9] at h
 try (refine gx ?_; intros; rename_i h)
 obtain ⟨hf, h⟩ := gd h
 obtain ⟨q24, hq, h⟩ := bnd h
 refine w_lastK [0] [] (fun K J t o => ∃ q24_, q24 = .inr q24_ ∧ PP K J t o) ?_ ?_
 ·have ho1 := h
  refine w_lpL (xs := a0) [0] [] 0 hf (fun K J l28 k26 t o => gl_fo9_1 a0 l28 k26  = some q24 ∧ PP ((3, .v (.int .i64 (k26 : Int))) :: K) J t o) ?_ ?_ ?_
  ·exact ⟨hq, pin, pinh⟩
  ·rintro k26 t o hlt ⟨h, pq⟩
   refine pn pq ?_
   rw [gl_fo9_1] at h
   exact cls
  rintro x27 l28 k26 t o hlt hx32 hw hd ⟨h, pq⟩
  refine pn pq ?_
  rw [gl_fo9_1] at h
  exact cls
 rintro t o ⟨q24, rfl, pq⟩
 refine pnq pq ?_
 exact cls
theorem d_es9 : OkC [c_fe9, c_ez9, c_fo9] c_es9 if_es9 ks_es9 := by
 refine ok fun G H a0 r h => ?_
 refine st1 fun bs t o => ?_
 dsimp only [gf_es9] at h
 exact cls
theorem d_fj9 : OkC [] c_fj9 if_fj9 ks_fj9 := by
 refine ok fun G H ⟨a0, a1⟩ r h => ?_
 refine st1 fun bs t o => ?_
 dsimp only [gf_fj9] at h
 try (refine gx ?_; intros; rename_i h)
 obtain ⟨hf, h⟩ := gd h
 obtain ⟨q14, hq, h⟩ := bnd h
 refine w_lastK [] [] (fun K J t o => ∃ q14_, q14 = .inr q14_ ∧ PP K J t o) ?_ ?_
 ·have ho1 := h
  refine w_lpL (xs := a0) [0, 1] [] 0 hf (fun K J l18 k16 t o => gl_fj9_1 a1 l18 k16  = some q14 ∧ PP ((5, .v (.int .i64 (k16 : Int))) :: K) J t o) ?_ ?_ ?_
  ·exact ⟨hq, pin, pinh⟩
  ·rintro k16 t o hlt ⟨h, pq⟩
   refine pn pq ?_
   rw [gl_fj9_1] at h
   exact cls
  rintro x17 l18 k16 t o hlt hx22 hw hd ⟨h, pq⟩
  refine pn pq ?_
  rw [gl_fj9_1] at h
  exact cls
 rintro t o ⟨q14, rfl, pq⟩
 refine pnq pq ?_
 exact cls
theorem d_fa9 : OkC [c_fj9] c_fa9 if_fa9 ks_fa9 := by
 refine ok fun G H ⟨a0, a1⟩ r h => ?_
 refine st1 fun bs t o => ?_
 dsimp only [gf_fa9] at h
 exact cls
theorem d_fn9 : OkC [] c_fn9 if_fn9 ks_fn9 := by
 refine ok fun G H ⟨a0, a1⟩ r h => ?_
 refine st1 fun bs t o => ?_
 dsimp only [gf_fn9] at h
 try (refine gx ?_; intros; rename_i h)
 obtain ⟨hf, h⟩ := gd h
 obtain ⟨q14, hq, h⟩ := bnd h
 refine w_lastK [] [] (fun K J t o => ∃ q14_, q14 = .inr q14_ ∧ PP K J t o) ?_ ?_
 ·have ho1 := h
  refine w_lpL (xs := a0) [0, 1] [] 0 hf (fun K J l18 k16 t o => gl_fn9_1 a1 l18 k16  = some q14 ∧ PP ((5, .v (.int .i64 (k16 : Int))) :: K) J t o) ?_ ?_ ?_
  ·exact ⟨hq, pin, pinh⟩
  ·rintro k16 t o hlt ⟨h, pq⟩
   refine pn pq ?_
   rw [gl_fn9_1] at h
   exact cls
  rintro x17 l18 k16 t o hlt hx22 hw hd ⟨h, pq⟩
  refine pn pq ?_
  rw [gl_fn9_1] at h
  exact cls
 rintro t o ⟨q14, rfl, pq⟩
 refine pnq pq ?_
 exact cls
theorem d_et9 : OkC [c_fa9, c_fn9] c_et9 if_et9 ks_et9 := by
 refine ok fun G H ⟨a0, a1⟩ r h => ?_
 refine st1 fun bs t o => ?_
 dsimp only [gf_et9] at h
 exact cls
theorem d_gj9 : OkC [] c_gj9 if_gj9 ks_gj9 := by
 refine ok fun G H ⟨a0, a1⟩ r h => ?_
 refine st1 fun bs t o => ?_
 dsimp only [gf_gj9] at h
 try (refine gx ?_; intros; rename_i h)
 obtain ⟨hf, h⟩ := gd h
 obtain ⟨q14, hq, h⟩ := bnd h
 refine w_lastK [] [] (fun K J t o => ∃ q14_, q14 = .inr q14_ ∧ PP K J t o) ?_ ?_
 ·have ho1 := h
  refine w_lpL (xs := a0) [0, 1] [] 0 hf (fun K J l18 k16 t o => gl_gj9_1 a1 l18 k16  = some q14 ∧ PP ((5, .v (.int .i64 (k16 : Int))) :: K) J t o) ?_ ?_ ?_
  ·exact ⟨hq, pin, pinh⟩
  ·rintro k16 t o hlt ⟨h, pq⟩
   refine pn pq ?_
   rw [gl_gj9_1] at h
   exact cls
  rintro x17 l18 k16 t o hlt hx22 hw hd ⟨h, pq⟩
  refine pn pq ?_
  rw [gl_gj9_1] at h
  exact cls
 rintro t o ⟨q14, rfl, pq⟩
 refine pnq pq ?_
 exact cls
theorem d_fd9 : OkC [c_et9] c_fd9 if_fd9 ks_fd9 := by
 refine ok fun G H ⟨a0, a1⟩ r h => ?_
 refine st1 fun bs t o => ?_
 dsimp only [gf_fd9] at h
 try (refine gx ?_; intros; rename_i h)
 obtain ⟨hf, h⟩ := gd h
 obtain ⟨q20, hq, h⟩ := bnd h
 refine w_lastK [] [] (fun K J t o => ∃ q20_, q20 = .inr q20_ ∧ PP K J t o) ?_ ?_
 ·have ho1 := h
  refine w_lpL (xs := a0) [0, 1] [] 0 hf (fun K J l24 k22 t o => gl_fd9_1 a1 l24 k22  = some q20 ∧ PP ((5, .v (.int .i64 (k22 : Int))) :: K) J t o) ?_ ?_ ?_
  ·exact ⟨hq, pin, pinh⟩
  ·rintro k22 t o hlt ⟨h, pq⟩
   refine pn pq ?_
   rw [gl_fd9_1] at h
   exact cls
  rintro x23 l24 k22 t o hlt hx28 hw hd ⟨h, pq⟩
  refine pn pq ?_
  rw [gl_fd9_1] at h
  exact cls
 rintro t o ⟨q20, rfl, pq⟩
 refine pnq pq ?_
 exact cls
theorem d_gl9 : OkC [c_gj9, c_fd9] c_gl9 if_gl9 ks_gl9 := by
 refine ok fun G H ⟨a0, a1⟩ r h => ?_
 refine st1 fun bs t o => ?_
 dsimp only [gf_gl9] at h
 exact cls
theorem d_gm9 : OkC [] c_gm9 if_gm9 ks_gm9 := by
 refine ok fun G H ⟨a0, a1⟩ r h => ?_
 refine st1 fun bs t o => ?_
 dsimp only [gf_gm9] at h
 try (refine gx ?_; intros; rename_i h)
 obtain ⟨hf, h⟩ := gd h
 obtain ⟨q8, hq, h⟩ := bnd h
 refine w_lastK [0, 1] [] (fun K J t o => ∃ q8_, q8 = .inr q8_ ∧ PP K J t o) ?_ ?_
 ·have ho1 := h
  refine w_lpL (xs := a0) [0, 1] [] 0 hf (fun K J l12 k10 t o => gl_gm9_1 a1 l12 k10  = some q8 ∧ PP ((5, .v (.int .i64 (k10 : Int))) :: K) J t o) ?_ ?_ ?_
  ·exact ⟨hq, pin, pinh⟩
  ·rintro k10 t o hlt ⟨h, pq⟩
   refine pn pq ?_
   rw [gl_gm9_1] at h
   exact cls
  rintro x11 l12 k10 t o hlt hx16 hw hd ⟨h, pq⟩
  refine pn pq ?_
  rw [gl_gm9_1] at h
  exact cls
 rintro t o ⟨q8, rfl, pq⟩
 refine pnq pq ?_
 exact cls
theorem d_fc9 : OkC [c_es9] c_fc9 if_fc9 ks_fc9 := by
 refine ok fun G H a0 r h => ?_
 refine st1 fun bs t o => ?_
 dsimp only [gf_fc9] at h
 try (refine gx ?_; intros; rename_i h)
 obtain ⟨hf, h⟩ := gd h
 obtain ⟨q18, hq, h⟩ := bnd h
 refine w_lastK [0] [] (fun K J t o => ∃ q18_, q18 = .inr q18_ ∧ PP K J t o) ?_ ?_
 ·have ho1 := h
  refine w_lpL (xs := a0) [0] [] 0 hf (fun K J l22 k20 t o => gl_fc9_1 a0 l22 k20  = some q18 ∧ PP ((3, .v (.int .i64 (k20 : Int))) :: K) J t o) ?_ ?_ ?_
  ·exact ⟨hq, pin, pinh⟩
  ·rintro k20 t o hlt ⟨h, pq⟩
   refine pn pq ?_
   rw [gl_fc9_1] at h
   exact cls
  rintro x21 l22 k20 t o hlt hx26 hw hd ⟨h, pq⟩
  refine pn pq ?_
  rw [gl_fc9_1] at h
  exact cls
 rintro t o ⟨q18, rfl, pq⟩
 refine pnq pq ?_
 exact cls
theorem d_gg9 : OkC [c_gl9] c_gg9 if_gg9 ks_gg9 := by
 refine ok fun G H ⟨a0, a1⟩ r h => ?_
 refine st1 fun bs t o => ?_
 dsimp only [gf_gg9] at h
 try (refine gx ?_; intros; rename_i h)
 obtain ⟨hf, h⟩ := gd h
 obtain ⟨q16, hq, h⟩ := bnd h
 refine w_lastK [] [] (fun K J t o => ∃ q16_, q16 = .inr q16_ ∧ PP K J t o) ?_ ?_
 ·have ho1 := h
  refine w_lpL (xs := a0.commits) [2, 3] [16, 24] 0 hf (fun K J l20 k18 t o => gl_gg9_1 a1 l20 k18  = some q16 ∧ PP ((5, .v (.int .i64 (k18 : Int))) :: K) J t o) ?_ ?_ ?_
  ·exact ⟨hq, pin, pinh⟩
  ·rintro k18 t o hlt ⟨h, pq⟩
   refine pn pq ?_
   rw [gl_gg9_1] at h
   exact cls
  rintro x19 l20 k18 t o hlt hx24 hw hd ⟨h, pq⟩
  refine pn pq ?_
  rw [gl_gg9_1] at h
  exact cls
 rintro t o ⟨q16, rfl, pq⟩
 refine pnq pq ?_
 exact cls
theorem d_gh9 : OkC [] c_gh9 if_gh9 ks_gh9 := by
 refine ok fun G H ⟨a0, a1⟩ r h => ?_
 refine st1 fun bs t o => ?_
 dsimp only [gf_gh9] at h
 try (refine gx ?_; intros; rename_i h)
 obtain ⟨hf, h⟩ := gd h
 obtain ⟨q9, hq, h⟩ := bnd h
 refine w_lastK [] [] (fun K J t o => ∃ q9_, q9 = .inr q9_ ∧ PP K J t o) ?_ ?_
 ·have ho1 := h
  refine w_lpL (xs := a0.heads) [1, 2] [16] 0 hf (fun K J l13 k11 t o => gl_gh9_1 a1 l13 k11  = some q9 ∧ PP ((5, .v (.int .i64 (k11 : Int))) :: K) J t o) ?_ ?_ ?_
  ·exact ⟨hq, pin, pinh⟩
  ·rintro k11 t o hlt ⟨h, pq⟩
   refine pn pq ?_
   rw [gl_gh9_1] at h
   exact cls
  rintro x12 l13 k11 t o hlt hx17 hw hd ⟨h, pq⟩
  refine pn pq ?_
  rw [gl_gh9_1] at h
  exact cls
 rintro t o ⟨q9, rfl, pq⟩
 refine pnq pq ?_
 exact cls
theorem d_ff9 : OkC [] c_ff9 if_ff9 ks_ff9 := by
 refine ok fun G H a0 r h => ?_
 refine st1 fun bs t o => ?_
 dsimp only [gf_ff9] at h
 exact cls
theorem d_fk9 : OkC [c_ff9] c_fk9 if_fk9 ks_fk9 := by
 refine ok fun G H a0 r h => ?_
 refine st1 fun bs t o => ?_
 dsimp only [gf_fk9] at h
 exact cls
theorem d_fp9 : OkC [c_fk9] c_fp9 if_fp9 ks_fp9 := by
 refine ok fun G H a0 r h => ?_
 refine st1 fun bs t o => ?_
 dsimp only [gf_fp9] at h
 try (refine gx ?_; intros; rename_i h)
 obtain ⟨hf, h⟩ := gd h
 obtain ⟨q42, hq, h⟩ := bnd h
 refine w_lastK [] [] (fun K J t o => ∃ b67 c68, PP ((3, .ref 40 b67 c68 0 q42.length 100) :: K) ((40, ent b67 c68 100 (List.map (eFeat true) q42)) :: J) t o) ?_ ?_
 ·refine w_lpL (xs := a0) [0] [] 0 hf (fun K J l49 k47 t o => ∃ v44 b45 c46, gl_fp9_1 l49 k47 v44 = some q42 ∧ PP ((3, .ref 40 b45 c46 0 v44.length 100) :: (4, .v (.int .i64 (k47 : Int))) :: K) ((40, ent b45 c46 100 (List.map (eFeat true) v44)) :: J) t o) ?_ ?_ ?_
  ·exact ⟨_, _, _, hq, pin, pinh⟩
  ·rintro k47 t o hlt ⟨v44, b45, c46, h, pq⟩
   refine pn pq ?_
   rw [gl_fp9_1] at h
   exact cls
  rintro x48 l49 k47 t o hlt hx53 hw hd ⟨v44, b45, c46, h, pq⟩
  refine pn pq ?_
  rw [gl_fp9_1] at h
  exact cls
 rintro t o ⟨b67, c68, pq⟩
 refine pnq pq ?_
 exact cls
theorem d_ex9 : OkC [c_gm9, c_fc9, c_fe9, c_gg9, c_gh9] c_ex9 if_ex9 ks_ex9 := by
 refine ok fun G H a0 r h => ?_
 refine st1 fun bs t o => ?_
 dsimp only [gf_ex9] at h
 try (refine gx ?_; intros; rename_i h)
 obtain ⟨hf, h⟩ := gd h
 obtain ⟨q36, hq, h⟩ := bnd h
 refine w_lastK [1] [8] (fun K J t o => ∃ q36_, q36 = .inr q36_ ∧ PP K J t o) ?_ ?_
 ·have ho1 := h
  refine w_lpL (xs := a0.commits) [1] [8] 0 hf (fun K J l40 k38 t o => gl_ex9_1 a0 l40 k38  = some q36 ∧ PP ((3, .v (.int .i64 (k38 : Int))) :: K) J t o) ?_ ?_ ?_
  ·exact ⟨hq, pin, pinh⟩
  ·rintro k38 t o hlt ⟨h, pq⟩
   refine pn pq ?_
   rw [gl_ex9_1] at h
   exact cls
  rintro x39 l40 k38 t o hlt hx44 hw hd ⟨h, pq⟩
  refine pn pq ?_
  rw [gl_ex9_1] at h
  exact cls
 rintro t o ⟨q36, rfl, pq⟩
 refine pnq pq ?_
 try (refine gx ?_; intros; rename_i h)
 obtain ⟨hf, h⟩ := gd h
 obtain ⟨q78, hq, h⟩ := bnd h
 refine w_lastK [] [] (fun K J t o => ∃ q78_, q78 = .inr q78_ ∧ PP K J t o) ?_ ?_
 ·have ho1 := h
  refine w_lpL (xs := a0.heads) [1] [8] 0 hf (fun K J l82 k80 t o => gl_ex9_2 a0 l82 k80  = some q78 ∧ PP ((5, .v (.int .i64 (k80 : Int))) :: K) J t o) ?_ ?_ ?_
  ·exact ⟨hq, pin, pinh⟩
  ·rintro k80 t o hlt ⟨h, pq⟩
   refine pn pq ?_
   rw [gl_ex9_2] at h
   exact cls
  rintro x81 l82 k80 t o hlt hx86 hw hd ⟨h, pq⟩
  refine pn pq ?_
  rw [gl_ex9_2] at h
  exact cls
 rintro t o ⟨q78, rfl, pq⟩
 refine pnq pq ?_
 exact cls
theorem d_gi9 : OkC [c_ex9] c_gi9 if_gi9 ks_gi9 := by
 refine ok fun G H ⟨a0, a1⟩ r h => ?_
 refine st1 fun bs t o => ?_
 dsimp only [gf_gi9] at h
 exact cls
theorem d_gk9 : OkC [] c_gk9 if_gk9 ks_gk9 := by
 refine ok fun G H ⟨a0, a1⟩ r h => ?_
 refine st1 fun bs t o => ?_
 dsimp only [gf_gk9] at h
 refine gx fun h4 => ?_; intros; rename_i h
 obtain ⟨hf, h⟩ := gd h
 obtain ⟨q21, hq, h⟩ := bnd h
 refine w_lastK [2] [16] (fun K J t o => ∃ b38 c39, PP ((5, .ref 96 b38 c39 0 q21.length 33) :: K) ((96, ent b38 c39 33 (List.map eBool q21)) :: J) t o) ?_ ?_
 ·refine w_lpL (xs := a1) [1, 2] [16] 0 hf (fun K J l28 k26 t o => ∃ v23 b24 c25, gl_gk9_1 l28 k26 v23 = some q21 ∧ PP ((5, .ref 96 b24 c25 0 v23.length 33) :: (6, .v (.int .i64 (k26 : Int))) :: K) ((96, ent b24 c25 33 (List.map eBool v23)) :: J) t o) ?_ ?_ ?_
  ·exact ⟨_, _, _, hq, pin, pinh⟩
  ·rintro k26 t o hlt ⟨v23, b24, c25, h, pq⟩
   refine pn pq ?_
   rw [gl_gk9_1] at h
   exact cls
  rintro x27 l28 k26 t o hlt hx32 hw hd ⟨v23, b24, c25, h, pq⟩
  refine pn pq ?_
  rw [gl_gk9_1] at h
  refine gx fun x35 h36 => ?_; intros; rename_i h
  refine c_ste (f := eBool) v23 true (idx_get h36).2 ?_
  exact cls
 rintro t o ⟨b38, c39, pq⟩
 refine pnq pq ?_
 try (refine gx ?_; intros; rename_i h)
 obtain ⟨q179, hq, h⟩ := bnd h
 refine w_lastK [] [] (fun K J t o => ∃ b231 c232, PP ((5, .ref 96 b231 c232 0 q179.length 33) :: K) ((96, ent b231 c232 33 (List.map eBool q179)) :: J) t o) ?_ ?_
 ·refine w_lpF [2] [16] (fun K J n184 t o => ∃ v180 v181 b182 c183, gl_gk9_5 a0 n184 v180 v181 = some q179 ∧ PP ((5, .ref 96 b182 c183 0 v181.length 33) :: (7, .v (.int .i64 v180)) :: K) ((96, ent b182 c183 33 (List.map eBool v181)) :: J) t o) ?_ ?_
  ·exact ⟨_, _, _, _, hq, pin, pinh⟩
  rintro n184 t o ⟨v180, v181, b182, c183, h, pq⟩
  refine pn pq ?_
  cases n184 with
  | zero => rw [gl_gk9_5] at h; cases h
  | succ n184 =>
   rw [gl_gk9_5] at h
   try (refine gx ?_; intros; rename_i h)
   obtain ⟨q213, hq, h⟩ := bnd h
   refine w_lastK [2, 7] [16] (fun K J t o => ∃ b228 c229, PP ((5, .ref 96 b228 c229 0 q213.length 33) :: K) ((96, ent b228 c229 33 (List.map eBool q213)) :: J) t o) ?_ ?_
   ·refine w_lpF [2, 7] [16] (fun K J n218 t o => ∃ v214 v215 b216 c217, gl_gk9_6 a0 v180 n218 v214 v215 = some q213 ∧ PP ((5, .ref 96 b216 c217 0 v215.length 33) :: (8, .v (.int .i64 v214)) :: K) ((96, ent b216 c217 33 (List.map eBool v215)) :: J) t o) ?_ ?_
    ·exact ⟨_, _, _, _, hq, pin, pinh⟩
    rintro n218 t o ⟨v214, v215, b216, c217, h, pq⟩
    refine pn pq ?_
    cases n218 with
    | zero => rw [gl_gk9_6] at h; cases h
    | succ n218 =>
     rw [gl_gk9_6] at h
     refine gx fun x219 h220 x221 h222 x223 h224 x225 h226 => ?_; intros; rename_i h
     refine c_ste (f := eBool) v215 true (idx_get h226).2 ?_
     exact cls
   rintro t o ⟨b228, c229, pq⟩
   refine pnq pq ?_
   exact cls
 rintro t o ⟨b231, c232, pq⟩
 refine pnq pq ?_
 exact cls
theorem d_ew9 : OkC [c_gi9, c_gk9] c_ew9 if_ew9 ks_ew9 := by
 refine ok fun G H ⟨a0, a1, a2⟩ r h => ?_
 refine st1 fun bs t o => ?_
 dsimp only [gf_ew9] at h
 refine gx fun x3 h4 x5 h6 x8 h9 x13 h14 h19 => ?_; intros; rename_i h
 obtain ⟨q198, hq, h⟩ := bnd h
 refine w_lastK [] [] (fun K J t o => ∃ b265 c266, PP ((7, .ref 104 b265 c266 0 q198.length 17) :: K) ((104, ent b265 c266 17 (List.map eInt q198)) :: J) t o) ?_ ?_
 ·refine w_lpF [3, 8, 9] [24, 224, 256] (fun K J n206 t o => ∃ v199 v200 v203 b201 c202 b204 c205, gl_ew9_4 x8 x13 a0 n206 v199 v200 v203 = some q198 ∧ PP ((7, .ref 104 b201 c202 0 v200.length 17) :: (10, .ref 288 b204 c205 0 v203.length 33) :: (11, .v (.int .i64 v199)) :: K) ((104, ent b201 c202 17 (List.map eInt v200)) :: (288, ent b204 c205 33 (List.map eBool v203)) :: J) t o) ?_ ?_
  ·exact ⟨_, _, _, _, _, _, _, hq, pin, pinh⟩
  rintro n206 t o ⟨v199, v200, v203, b201, c202, b204, c205, h, pq⟩
  refine pn pq ?_
  cases n206 with
  | zero => rw [gl_ew9_4] at h; cases h
  | succ n206 =>
   rw [gl_ew9_4] at h
   refine gx fun x207 h208 x209 h210 => ?_; intros; rename_i h
   obtain ⟨q217, hq, h⟩ := bnd h
   refine w_cutK [3, 8, 9, 10, 11, 51, 52, 54, 55] [24, 224, 256, 288] (fun K J t o => ∃ b225 c226, PP ((7, .ref 104 b225 c226 0 q217.length 17) :: K) ((104, ent b225 c226 17 (List.map eInt q217)) :: J) t o) ?_ ?_
   ·have h := hq
    exact cls
   rintro t o ⟨b225, c226, pq⟩
   refine pn pq ?_
   try (refine gx ?_; intros; rename_i h)
   obtain ⟨q249, hq, h⟩ := bnd h
   refine w_lastK [3, 7, 8, 9, 11, 51, 52, 54, 55] [24, 104, 224, 256] (fun K J t o => ∃ b262 c263, PP ((10, .ref 288 b262 c263 0 q249.length 33) :: K) ((288, ent b262 c263 33 (List.map eBool q249)) :: J) t o) ?_ ?_
   ·refine w_lpF [3, 7, 8, 9, 11, 51, 52, 54, 55] [24, 104, 224, 256] (fun K J n254 t o => ∃ v250 v251 b252 c253, gl_ew9_5 a0 v199 n254 v250 v251 = some q249 ∧ PP ((10, .ref 288 b252 c253 0 v251.length 33) :: (12, .v (.int .i64 v250)) :: K) ((288, ent b252 c253 33 (List.map eBool v251)) :: J) t o) ?_ ?_
    ·exact ⟨_, _, _, _, hq, pin, pinh⟩
    rintro n254 t o ⟨v250, v251, b252, c253, h, pq⟩
    refine pn pq ?_
    cases n254 with
    | zero => rw [gl_ew9_5] at h; cases h
    | succ n254 =>
     rw [gl_ew9_5] at h
     refine gx fun x255 h256 x257 h258 x259 h260 => ?_; intros; rename_i h
     refine c_ste (f := eBool) v251 true (idx_get h260).2 ?_
     exact cls
   rintro t o ⟨b262, c263, pq⟩
   refine pnq pq ?_
   exact cls
 rintro t o ⟨b265, c266, pq⟩
 refine pnq pq ?_
 exact cls
theorem d_fr9 : OkC [] c_fr9 if_fr9 ks_fr9 := by
 refine ok fun G H ⟨a0, a1⟩ r h => ?_
 refine st1 fun bs t o => ?_
 dsimp only [gf_fr9] at h
 try (refine gx ?_; intros; rename_i h)
 obtain ⟨hf, h⟩ := gd h
 obtain ⟨q81, hq, h⟩ := bnd h
 refine w_lastK [3] [24] (fun K J t o => ∃ b115 c116, PP ((5, .ref 64 b115 c116 0 q81.2.length 100) :: (6, .v (.bool q81.1)) :: K) ((64, ent b115 c116 100 (List.map (eFeat false) q81.2)) :: J) t o) ?_ ?_
 ·refine w_lpL (xs := a0) [0, 3] [24] 0 hf (fun K J l89 k87 t o => ∃ v82 v84 b85 c86, gl_fr9_1 a1 l89 k87 v82 v84 = some q81 ∧ PP ((5, .ref 64 b85 c86 0 v84.length 100) :: (6, .v (.bool v82)) :: (7, .v (.int .i64 (k87 : Int))) :: K) ((64, ent b85 c86 100 (List.map (eFeat false) v84)) :: J) t o) ?_ ?_ ?_
  ·exact ⟨_, _, _, _, hq, pin, pinh⟩
  ·rintro k87 t o hlt ⟨v82, v84, b85, c86, h, pq⟩
   refine pn pq ?_
   rw [gl_fr9_1] at h
   exact cls
  rintro x88 l89 k87 t o hlt hx93 hw hd ⟨v82, v84, b85, c86, h, pq⟩
  refine pn pq ?_
  rw [gl_fr9_1] at h
  try (refine gx ?_; intros; rename_i h)
  obtain ⟨q100, hq, h⟩ := bnd h
  refine w_cutK [0, 3, 7] [24] (fun K J t o => ∃ b107 c108, PP ((5, .ref 64 b107 c108 0 q100.2.length 100) :: (6, .v (.bool q100.1)) :: K) ((64, ent b107 c108 100 (List.map (eFeat false) q100.2)) :: J) t o) ?_ ?_
  ·have h := hq
   exact cls
  rintro t o ⟨b107, c108, pq⟩
  refine pn pq ?_
  exact cls
 rintro t o ⟨b115, c116, pq⟩
 refine pnq pq ?_
 exact cls
theorem d_fs9 : OkC [c_fr9] c_fs9 if_fs9 ks_fs9 := by
 refine ok fun G H ⟨a0, a1⟩ r h => ?_
 refine st1 fun bs t o => ?_
 dsimp only [gf_fs9] at h
 try (refine gx ?_; intros; rename_i h)
 obtain ⟨hf, h⟩ := gd h
 obtain ⟨q21, hq, h⟩ := bnd h
 refine w_lastK [] [] (fun K J t o => PP ((5, .ro (List.map (eFeat false) q21)) :: K) J t o) ?_ ?_
 ·refine w_lpL (xs := a1) [1] [] 0 hf (fun K J l26 k24 t o => ∃ v22, gl_fs9_1 l26 k24 v22 = some q21 ∧ PP ((5, .ro (List.map (eFeat false) v22)) :: (6, .v (.int .i64 (k24 : Int))) :: K) J t o) ?_ ?_ ?_
  ·exact ⟨_, hq, pin, pinh⟩
  ·rintro k24 t o hlt ⟨v22, h, pq⟩
   refine pn pq ?_
   rw [gl_fs9_1] at h
   exact cls
  rintro x25 l26 k24 t o hlt hx30 hw hd ⟨v22, h, pq⟩
  refine pn pq ?_
  rw [gl_fs9_1] at h
  exact cls
 rintro t o pq
 refine pnq pq ?_
 try (refine gx ?_; intros; rename_i h)
 obtain ⟨hf, h⟩ := gd h
 obtain ⟨q61, hq, h⟩ := bnd h
 refine w_lastK [] [] (fun K J t o => ∃ b80 c81, PP ((7, .ref 176 b80 c81 0 q61.length 49) :: K) ((176, ent b80 c81 49 (List.map eStr q61)) :: J) t o) ?_ ?_
 ·refine w_lpL (xs := q21) [5] [] 0 hf (fun K J l68 k66 t o => ∃ v63 b64 c65, gl_fs9_2 l68 k66 v63 = some q61 ∧ PP ((7, .ref 176 b64 c65 0 v63.length 49) :: (8, .v (.int .i64 (k66 : Int))) :: K) ((176, ent b64 c65 49 (List.map eStr v63)) :: J) t o) ?_ ?_ ?_
  ·exact ⟨_, _, _, hq, pin, pinh⟩
  ·rintro k66 t o hlt ⟨v63, b64, c65, h, pq⟩
   refine pn pq ?_
   rw [gl_fs9_2] at h
   exact cls
  rintro x67 l68 k66 t o hlt hx72 hw hd ⟨v63, b64, c65, h, pq⟩
  refine pn pq ?_
  rw [gl_fs9_2] at h
  exact cls
 rintro t o ⟨b80, c81, pq⟩
 refine pnq pq ?_
 exact cls
end Go.Proofs.AM
