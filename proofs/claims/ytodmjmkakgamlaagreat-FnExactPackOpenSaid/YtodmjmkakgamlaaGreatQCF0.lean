/- Lemmas of the proof (QCF0), on an abstract machine. Conditions: none. -/
import Derived.Test.YtodmjmkakgamlaaGreatQCD
set_option linter.unusedVariables false
set_option maxRecDepth 100000
set_option maxHeartbeats 4000000
namespace Go.Proofs.AM
attribute [local irreducible] vwp vstps vstpLs vstp vdo vret kseq kblk kloop kend kcut kloop2 frzV renV shutK pfzV trnV unrV
theorem d_cw9 : OkC [] c_cw9 if_cw9 ks_cw9 := by
 refine ok fun G H ⟨a0, a1⟩ r h => ?_
 refine st1 fun bs t o => ?_
 dsimp only [gf_cw9] at h
 exact cls
theorem d_cy9 : OkC [] c_cy9 if_cy9 ks_cy9 := by
 refine ok fun G H ⟨a0, a1⟩ r h => ?_
 refine st1 fun bs t o => ?_
 dsimp only [gf_cy9] at h
 exact cls
theorem d_cx9 : OkC [c_cw9] c_cx9 if_cx9 ks_cx9 := by
 refine ok fun G H ⟨a0, a1⟩ r h => ?_
 refine st1 fun bs t o => ?_
 dsimp only [gf_cx9] at h
 exact cls
theorem d_cz9 : OkC [c_cy9] c_cz9 if_cz9 ks_cz9 := by
 refine ok fun G H ⟨a0, a1⟩ r h => ?_
 refine st1 fun bs t o => ?_
 dsimp only [gf_cz9] at h
 try (refine gx ?_; intros; rename_i h)
 obtain ⟨hf, h⟩ := gd h
 obtain ⟨q15, hq, h⟩ := bnd h
 refine w_lastK [] [] (fun K J t o => ∃ q15_, q15 = .inr q15_ ∧ PP ((1, .v (.int .i64 q15_)) :: K) J t o) ?_ ?_
 ·have ho1 := h
  refine w_lpL (xs := a0) [0] [] 0 hf (fun K J l20 k18 t o => ∃ v16, gl_cz9_1 l20 k18 v16 = some q15 ∧ PP ((1, .v (.int .i64 v16)) :: (5, .v (.int .i64 (k18 : Int))) :: K) J t o) ?_ ?_ ?_
  ·exact ⟨_, hq, pin, pinh⟩
  ·rintro k18 t o hlt ⟨v16, h, pq⟩
   refine pn pq ?_
   rw [gl_cz9_1] at h
   exact cls
  rintro x19 l20 k18 t o hlt hx24 hw hd ⟨v16, h, pq⟩
  refine pn pq ?_
  rw [gl_cz9_1] at h
  exact cls
 rintro t o ⟨q15, rfl, pq⟩
 refine pnq pq ?_
 exact cls
theorem d_cs9 : OkC [c_cx9, c_cz9] c_cs9 if_cs9 ks_cs9 := by
 refine ok fun G H ⟨a0, a1⟩ r h => ?_
 refine st1 fun bs t o => ?_
 dsimp only [gf_cs9] at h
 exact cls
theorem d_cv9 : OkC [] c_cv9 if_cv9 ks_cv9 := by
 refine ok fun G H ⟨a0, a1⟩ r h => ?_
 refine st1 fun bs t o => ?_
 dsimp only [gf_cv9] at h
 exact cls
theorem d_ct9 : OkC [] c_ct9 if_ct9 ks_ct9 := by
 refine ok fun G H ⟨a0, a1⟩ r h => ?_
 refine st1 fun bs t o => ?_
 dsimp only [gf_ct9] at h
 exact cls
theorem d_cu9 : OkC [c_ct9] c_cu9 if_cu9 ks_cu9 := by
 refine ok fun G H ⟨a0, a1⟩ r h => ?_
 refine st1 fun bs t o => ?_
 dsimp only [gf_cu9] at h
 try (refine gx ?_; intros; rename_i h)
 obtain ⟨hf, h⟩ := gd h
 obtain ⟨q15, hq, h⟩ := bnd h
 refine w_lastK [] [] (fun K J t o => ∃ q15_, q15 = .inr q15_ ∧ PP ((1, .v (.int .i64 q15_)) :: K) J t o) ?_ ?_
 ·have ho1 := h
  refine w_lpL (xs := a0) [0] [] 0 hf (fun K J l20 k18 t o => ∃ v16, gl_cu9_1 l20 k18 v16 = some q15 ∧ PP ((1, .v (.int .i64 v16)) :: (5, .v (.int .i64 (k18 : Int))) :: K) J t o) ?_ ?_ ?_
  ·exact ⟨_, hq, pin, pinh⟩
  ·rintro k18 t o hlt ⟨v16, h, pq⟩
   refine pn pq ?_
   rw [gl_cu9_1] at h
   exact cls
  rintro x19 l20 k18 t o hlt hx24 hw hd ⟨v16, h, pq⟩
  refine pn pq ?_
  rw [gl_cu9_1] at h
  exact cls
 rintro t o ⟨q15, rfl, pq⟩
 refine pnq pq ?_
 exact cls
theorem d_ep9 : OkC [] c_ep9 if_ep9 ks_ep9 := by
 refine ok fun G H a0 r h => ?_
 refine st1 fun bs t o => ?_
 dsimp only [gf_ep9] at h
 exact cls
theorem d_eq9 : OkC [c_ep9] c_eq9 if_eq9 ks_eq9 := by
 refine ok fun G H a0 r h => ?_
 refine st1 fun bs t o => ?_
 dsimp only [gf_eq9] at h
 try (refine gx ?_; intros; rename_i h)
 obtain ⟨hf, h⟩ := gd h
 obtain ⟨q24, hq, h⟩ := bnd h
 refine w_lastK [0] [] (fun K J t o => ∃ q24_, q24 = .inr q24_ ∧ PP K J t o) ?_ ?_
 ·have ho1 := h
  refine w_lpL (xs := a0) [0] [] 0 hf (fun K J l28 k26 t o => gl_eq9_1 a0 l28 k26  = some q24 ∧ PP ((3, .v (.int .i64 (k26 : Int))) :: K) J t o) ?_ ?_ ?_
  ·exact ⟨hq, pin, pinh⟩
  ·rintro k26 t o hlt ⟨h, pq⟩
   refine pn pq ?_
   rw [gl_eq9_1] at h
   exact cls
  rintro x27 l28 k26 t o hlt hx32 hw hd ⟨h, pq⟩
  refine pn pq ?_
  rw [gl_eq9_1] at h
  exact cls
 rintro t o ⟨q24, rfl, pq⟩
 refine pnq pq ?_
 exact cls
theorem d_en9 : OkC [] c_en9 if_en9 ks_en9 := by
 refine ok fun G H a0 r h => ?_
 refine st1 fun bs t o => ?_
 dsimp only [gf_en9] at h
 try (refine gx ?_; intros; rename_i h)
 obtain ⟨hf, h⟩ := gd h
 obtain ⟨q8, hq, h⟩ := bnd h
 refine w_lastK [0] [] (fun K J t o => ∃ q8_, q8 = .inr q8_ ∧ PP K J t o) ?_ ?_
 ·have ho1 := h
  refine w_lpB (xs := a0) [0] [] 0 hf (fun K J l12 k10 t o => gl_en9_1 l12 k10  = some q8 ∧ PP ((3, .v (.int .i64 (k10 : Int))) :: K) J t o) ?_ ?_ ?_
  ·exact ⟨hq, pin, pinh⟩
  ·rintro k10 t o hlt ⟨h, pq⟩
   refine pn pq ?_
   rw [gl_en9_1] at h
   exact cls
  rintro x11 l12 k10 t o hlt hx16 hw hd ⟨h, pq⟩
  refine pn pq ?_
  rw [gl_en9_1] at h
  exact cls
 rintro t o ⟨q8, rfl, pq⟩
 refine pnq pq ?_
 exact cls
theorem d_ej9 : OkC [c_eq9] c_ej9 if_ej9 ks_ej9 := by
 refine ok fun G H a0 r h => ?_
 refine st1 fun bs t o => ?_
 dsimp only [gf_ej9] at h
 exact cls
theorem d_eu9 : OkC [c_en9] c_eu9 if_eu9 ks_eu9 := by
 refine ok fun G H a0 r h => ?_
 refine st1 fun bs t o => ?_
 dsimp only [gf_eu9] at h
 try (refine gx ?_; intros; rename_i h)
 obtain ⟨hf, h⟩ := gd h
 obtain ⟨q24, hq, h⟩ := bnd h
 refine w_lastK [0] [] (fun K J t o => ∃ q24_, q24 = .inr q24_ ∧ PP K J t o) ?_ ?_
 ·have ho1 := h
  refine w_lpL (xs := a0) [0] [] 0 hf (fun K J l28 k26 t o => gl_eu9_1 a0 l28 k26  = some q24 ∧ PP ((3, .v (.int .i64 (k26 : Int))) :: K) J t o) ?_ ?_ ?_
  ·exact ⟨hq, pin, pinh⟩
  ·rintro k26 t o hlt ⟨h, pq⟩
   refine pn pq ?_
   rw [gl_eu9_1] at h
   exact cls
  rintro x27 l28 k26 t o hlt hx32 hw hd ⟨h, pq⟩
  refine pn pq ?_
  rw [gl_eu9_1] at h
  exact cls
 rintro t o ⟨q24, rfl, pq⟩
 refine pnq pq ?_
 exact cls
theorem d_ef9 : OkC [c_en9, c_ej9, c_eu9] c_ef9 if_ef9 ks_ef9 := by
 refine ok fun G H a0 r h => ?_
 refine st1 fun bs t o => ?_
 dsimp only [gf_ef9] at h
 exact cls
theorem d_er9 : OkC [] c_er9 if_er9 ks_er9 := by
 refine ok fun G H ⟨a0, a1⟩ r h => ?_
 refine st1 fun bs t o => ?_
 dsimp only [gf_er9] at h
 try (refine gx ?_; intros; rename_i h)
 obtain ⟨hf, h⟩ := gd h
 obtain ⟨q14, hq, h⟩ := bnd h
 refine w_lastK [] [] (fun K J t o => ∃ q14_, q14 = .inr q14_ ∧ PP K J t o) ?_ ?_
 ·have ho1 := h
  refine w_lpL (xs := a0) [0, 1] [] 0 hf (fun K J l18 k16 t o => gl_er9_1 a1 l18 k16  = some q14 ∧ PP ((5, .v (.int .i64 (k16 : Int))) :: K) J t o) ?_ ?_ ?_
  ·exact ⟨hq, pin, pinh⟩
  ·rintro k16 t o hlt ⟨h, pq⟩
   refine pn pq ?_
   rw [gl_er9_1] at h
   exact cls
  rintro x17 l18 k16 t o hlt hx22 hw hd ⟨h, pq⟩
  refine pn pq ?_
  rw [gl_er9_1] at h
  exact cls
 rintro t o ⟨q14, rfl, pq⟩
 refine pnq pq ?_
 exact cls
theorem d_ek9 : OkC [c_er9] c_ek9 if_ek9 ks_ek9 := by
 refine ok fun G H ⟨a0, a1⟩ r h => ?_
 refine st1 fun bs t o => ?_
 dsimp only [gf_ek9] at h
 exact cls
theorem d_et9 : OkC [] c_et9 if_et9 ks_et9 := by
 refine ok fun G H ⟨a0, a1⟩ r h => ?_
 refine st1 fun bs t o => ?_
 dsimp only [gf_et9] at h
 try (refine gx ?_; intros; rename_i h)
 obtain ⟨hf, h⟩ := gd h
 obtain ⟨q14, hq, h⟩ := bnd h
 refine w_lastK [] [] (fun K J t o => ∃ q14_, q14 = .inr q14_ ∧ PP K J t o) ?_ ?_
 ·have ho1 := h
  refine w_lpL (xs := a0) [0, 1] [] 0 hf (fun K J l18 k16 t o => gl_et9_1 a1 l18 k16  = some q14 ∧ PP ((5, .v (.int .i64 (k16 : Int))) :: K) J t o) ?_ ?_ ?_
  ·exact ⟨hq, pin, pinh⟩
  ·rintro k16 t o hlt ⟨h, pq⟩
   refine pn pq ?_
   rw [gl_et9_1] at h
   exact cls
  rintro x17 l18 k16 t o hlt hx22 hw hd ⟨h, pq⟩
  refine pn pq ?_
  rw [gl_et9_1] at h
  exact cls
 rintro t o ⟨q14, rfl, pq⟩
 refine pnq pq ?_
 exact cls
theorem d_eg9 : OkC [c_ek9, c_et9] c_eg9 if_eg9 ks_eg9 := by
 refine ok fun G H ⟨a0, a1⟩ r h => ?_
 refine st1 fun bs t o => ?_
 dsimp only [gf_eg9] at h
 exact cls
theorem d_fe9 : OkC [] c_fe9 if_fe9 ks_fe9 := by
 refine ok fun G H ⟨a0, a1⟩ r h => ?_
 refine st1 fun bs t o => ?_
 dsimp only [gf_fe9] at h
 try (refine gx ?_; intros; rename_i h)
 obtain ⟨hf, h⟩ := gd h
 obtain ⟨q14, hq, h⟩ := bnd h
 refine w_lastK [] [] (fun K J t o => ∃ q14_, q14 = .inr q14_ ∧ PP K J t o) ?_ ?_
 ·have ho1 := h
  refine w_lpL (xs := a0) [0, 1] [] 0 hf (fun K J l18 k16 t o => gl_fe9_1 a1 l18 k16  = some q14 ∧ PP ((5, .v (.int .i64 (k16 : Int))) :: K) J t o) ?_ ?_ ?_
  ·exact ⟨hq, pin, pinh⟩
  ·rintro k16 t o hlt ⟨h, pq⟩
   refine pn pq ?_
   rw [gl_fe9_1] at h
   exact cls
  rintro x17 l18 k16 t o hlt hx22 hw hd ⟨h, pq⟩
  refine pn pq ?_
  rw [gl_fe9_1] at h
  exact cls
 rintro t o ⟨q14, rfl, pq⟩
 refine pnq pq ?_
 exact cls
theorem d_em9 : OkC [c_eg9] c_em9 if_em9 ks_em9 := by
 refine ok fun G H ⟨a0, a1⟩ r h => ?_
 refine st1 fun bs t o => ?_
 dsimp only [gf_em9] at h
 try (refine gx ?_; intros; rename_i h)
 obtain ⟨hf, h⟩ := gd h
 obtain ⟨q20, hq, h⟩ := bnd h
 refine w_lastK [] [] (fun K J t o => ∃ q20_, q20 = .inr q20_ ∧ PP K J t o) ?_ ?_
 ·have ho1 := h
  refine w_lpL (xs := a0) [0, 1] [] 0 hf (fun K J l24 k22 t o => gl_em9_1 a1 l24 k22  = some q20 ∧ PP ((5, .v (.int .i64 (k22 : Int))) :: K) J t o) ?_ ?_ ?_
  ·exact ⟨hq, pin, pinh⟩
  ·rintro k22 t o hlt ⟨h, pq⟩
   refine pn pq ?_
   rw [gl_em9_1] at h
   exact cls
  rintro x23 l24 k22 t o hlt hx28 hw hd ⟨h, pq⟩
  refine pn pq ?_
  rw [gl_em9_1] at h
  exact cls
 rintro t o ⟨q20, rfl, pq⟩
 refine pnq pq ?_
 exact cls
theorem d_ff9 : OkC [c_fe9, c_em9] c_ff9 if_ff9 ks_ff9 := by
 refine ok fun G H ⟨a0, a1⟩ r h => ?_
 refine st1 fun bs t o => ?_
 dsimp only [gf_ff9] at h
 exact cls
theorem d_fg9 : OkC [] c_fg9 if_fg9 ks_fg9 := by
 refine ok fun G H ⟨a0, a1⟩ r h => ?_
 refine st1 fun bs t o => ?_
 dsimp only [gf_fg9] at h
 try (refine gx ?_; intros; rename_i h)
 obtain ⟨hf, h⟩ := gd h
 obtain ⟨q8, hq, h⟩ := bnd h
 refine w_lastK [0, 1] [] (fun K J t o => ∃ q8_, q8 = .inr q8_ ∧ PP K J t o) ?_ ?_
 ·have ho1 := h
  refine w_lpL (xs := a0) [0, 1] [] 0 hf (fun K J l12 k10 t o => gl_fg9_1 a1 l12 k10  = some q8 ∧ PP ((5, .v (.int .i64 (k10 : Int))) :: K) J t o) ?_ ?_ ?_
  ·exact ⟨hq, pin, pinh⟩
  ·rintro k10 t o hlt ⟨h, pq⟩
   refine pn pq ?_
   rw [gl_fg9_1] at h
   exact cls
  rintro x11 l12 k10 t o hlt hx16 hw hd ⟨h, pq⟩
  refine pn pq ?_
  rw [gl_fg9_1] at h
  exact cls
 rintro t o ⟨q8, rfl, pq⟩
 refine pnq pq ?_
 exact cls
theorem d_el9 : OkC [c_ef9] c_el9 if_el9 ks_el9 := by
 refine ok fun G H a0 r h => ?_
 refine st1 fun bs t o => ?_
 dsimp only [gf_el9] at h
 try (refine gx ?_; intros; rename_i h)
 obtain ⟨hf, h⟩ := gd h
 obtain ⟨q18, hq, h⟩ := bnd h
 refine w_lastK [0] [] (fun K J t o => ∃ q18_, q18 = .inr q18_ ∧ PP K J t o) ?_ ?_
 ·have ho1 := h
  refine w_lpL (xs := a0) [0] [] 0 hf (fun K J l22 k20 t o => gl_el9_1 a0 l22 k20  = some q18 ∧ PP ((3, .v (.int .i64 (k20 : Int))) :: K) J t o) ?_ ?_ ?_
  ·exact ⟨hq, pin, pinh⟩
  ·rintro k20 t o hlt ⟨h, pq⟩
   refine pn pq ?_
   rw [gl_el9_1] at h
   exact cls
  rintro x21 l22 k20 t o hlt hx26 hw hd ⟨h, pq⟩
  refine pn pq ?_
  rw [gl_el9_1] at h
  exact cls
 rintro t o ⟨q18, rfl, pq⟩
 refine pnq pq ?_
 exact cls
theorem d_fc9 : OkC [c_ff9] c_fc9 if_fc9 ks_fc9 := by
 refine ok fun G H ⟨a0, a1⟩ r h => ?_
 refine st1 fun bs t o => ?_
 dsimp only [gf_fc9] at h
 try (refine gx ?_; intros; rename_i h)
 obtain ⟨hf, h⟩ := gd h
 obtain ⟨q16, hq, h⟩ := bnd h
 refine w_lastK [] [] (fun K J t o => ∃ q16_, q16 = .inr q16_ ∧ PP K J t o) ?_ ?_
 ·have ho1 := h
  refine w_lpL (xs := a0.commits) [2, 3] [16, 24] 0 hf (fun K J l20 k18 t o => gl_fc9_1 a1 l20 k18  = some q16 ∧ PP ((5, .v (.int .i64 (k18 : Int))) :: K) J t o) ?_ ?_ ?_
  ·exact ⟨hq, pin, pinh⟩
  ·rintro k18 t o hlt ⟨h, pq⟩
   refine pn pq ?_
   rw [gl_fc9_1] at h
   exact cls
  rintro x19 l20 k18 t o hlt hx24 hw hd ⟨h, pq⟩
  refine pn pq ?_
  rw [gl_fc9_1] at h
  exact cls
 rintro t o ⟨q16, rfl, pq⟩
 refine pnq pq ?_
 exact cls
theorem d_fd9 : OkC [] c_fd9 if_fd9 ks_fd9 := by
 refine ok fun G H ⟨a0, a1⟩ r h => ?_
 refine st1 fun bs t o => ?_
 dsimp only [gf_fd9] at h
 try (refine gx ?_; intros; rename_i h)
 obtain ⟨hf, h⟩ := gd h
 obtain ⟨q9, hq, h⟩ := bnd h
 refine w_lastK [] [] (fun K J t o => ∃ q9_, q9 = .inr q9_ ∧ PP K J t o) ?_ ?_
 ·have ho1 := h
  refine w_lpL (xs := a0.heads) [1, 2] [16] 0 hf (fun K J l13 k11 t o => gl_fd9_1 a1 l13 k11  = some q9 ∧ PP ((5, .v (.int .i64 (k11 : Int))) :: K) J t o) ?_ ?_ ?_
  ·exact ⟨hq, pin, pinh⟩
  ·rintro k11 t o hlt ⟨h, pq⟩
   refine pn pq ?_
   rw [gl_fd9_1] at h
   exact cls
  rintro x12 l13 k11 t o hlt hx17 hw hd ⟨h, pq⟩
  refine pn pq ?_
  rw [gl_fd9_1] at h
  exact cls
 rintro t o ⟨q9, rfl, pq⟩
 refine pnq pq ?_
 exact cls
theorem d_eo9 : OkC [] c_eo9 if_eo9 ks_eo9 := by
 refine ok fun G H a0 r h => ?_
 refine st1 fun bs t o => ?_
 dsimp only [gf_eo9] at h
 exact cls
end Go.Proofs.AM
