/- Lemmas of the proof (QAF2), on an abstract machine. Conditions: none. -/
import Derived.Test.YtodmjmkakgamlaaGreatQAD
set_option linter.unusedVariables false
set_option maxRecDepth 100000
set_option maxHeartbeats 4000000
namespace Go.Proofs.AM
attribute [local irreducible] vwp vstps vstpLs vstp vdo vret kseq kblk kloop kend kcut kloop2 frzV renV shutK pfzV trnV unrV
theorem d_ar9 : OkC [c_bm9] c_ar9 if_ar9 ks_ar9 := by
 refine ok fun G H ⟨a0, a1⟩ r h => ?_
 refine st1 fun bs t o => ?_
 dsimp only [gf_ar9] at h
 exact cls
theorem d_bq9 : OkC [] c_bq9 if_bq9 ks_bq9 := by
 refine ok fun G H ⟨a0, a1⟩ r h => ?_
 refine st1 fun bs t o => ?_
 dsimp only [gf_bq9] at h
 try (refine gx ?_; intros; rename_i h)
 obtain ⟨hf, h⟩ := gd h
 obtain ⟨q14, hq, h⟩ := bnd h
 refine w_lastK [] [] (fun K J t o => ∃ q14_, q14 = .inr q14_ ∧ PP K J t o) ?_ ?_
 ·have ho1 := h
  refine w_lpL (xs := a0) [0, 1, 12] [] 0 hf (fun K J l18 k16 t o => gl_bq9_1 a1 l18 k16  = some q14 ∧ PP ((13, .v (.int .i64 (k16 : Int))) :: K) J t o) ?_ ?_ ?_
  ·exact ⟨hq, pin, pinh⟩
  ·rintro k16 t o hlt ⟨h, pq⟩
   refine pn pq ?_
   rw [gl_bq9_1] at h
   exact cls
  rintro x17 l18 k16 t o hlt hx22 hw hd ⟨h, pq⟩
  refine pn pq ?_
  rw [gl_bq9_1] at h
  exact cls
 rintro t o ⟨q14, rfl, pq⟩
 refine pnq pq ?_
 exact cls
theorem d_bc9 : OkC [c_bq9, c_ar9] c_bc9 if_bc9 ks_bc9 := by
 refine ok fun G H ⟨a0, a1⟩ r h => ?_
 refine st1 fun bs t o => ?_
 dsimp only [gf_bc9] at h
 exact cls
theorem d_bx9 : OkC [] c_bx9 if_bx9 ks_bx9 := by
 refine ok fun G H ⟨a0, a1⟩ r h => ?_
 refine st1 fun bs t o => ?_
 dsimp only [gf_bx9] at h
 try (refine gx ?_; intros; rename_i h)
 obtain ⟨hf, h⟩ := gd h
 obtain ⟨q8, hq, h⟩ := bnd h
 refine w_lastK [] [] (fun K J t o => ∃ q8_, q8 = .inr q8_ ∧ PP K J t o) ?_ ?_
 ·have ho1 := h
  refine w_lpL (xs := a0) [0, 1, 7] [] 0 hf (fun K J l12 k10 t o => gl_bx9_1 a1 l12 k10  = some q8 ∧ PP ((8, .v (.int .i64 (k10 : Int))) :: K) J t o) ?_ ?_ ?_
  ·exact ⟨hq, pin, pinh⟩
  ·rintro k10 t o hlt ⟨h, pq⟩
   refine pn pq ?_
   rw [gl_bx9_1] at h
   exact cls
  rintro x11 l12 k10 t o hlt hx16 hw hd ⟨h, pq⟩
  refine pn pq ?_
  rw [gl_bx9_1] at h
  exact cls
 rintro t o ⟨q8, rfl, pq⟩
 refine pnq pq ?_
 exact cls
theorem d_aq9 : OkC [c_ae9] c_aq9 if_aq9 ks_aq9 := by
 refine ok fun G H a0 r h => ?_
 refine st1 fun bs t o => ?_
 dsimp only [gf_aq9] at h
 try (refine gx ?_; intros; rename_i h)
 obtain ⟨hf, h⟩ := gd h
 obtain ⟨q21, hq, h⟩ := bnd h
 refine w_lastK [0] [] (fun K J t o => ∃ q21_, q21 = .inr q21_ ∧ PP K J t o) ?_ ?_
 ·have ho1 := h
  refine w_lpL (xs := a0) [0, 5, 6] [] 0 hf (fun K J l25 k23 t o => gl_aq9_1 a0 l25 k23  = some q21 ∧ PP ((7, .v (.int .i64 (k23 : Int))) :: K) J t o) ?_ ?_ ?_
  ·exact ⟨hq, pin, pinh⟩
  ·rintro k23 t o hlt ⟨h, pq⟩
   refine pn pq ?_
   rw [gl_aq9_1] at h
   exact cls
  rintro x24 l25 k23 t o hlt hx29 hw hd ⟨h, pq⟩
  refine pn pq ?_
  rw [gl_aq9_1] at h
  exact cls
 rintro t o ⟨q21, rfl, pq⟩
 refine pnq pq ?_
 exact cls
theorem d_ak9 : OkC [c_bc9] c_ak9 if_ak9 ks_ak9 := by
 refine ok fun G H ⟨a0, a1⟩ r h => ?_
 refine st1 fun bs t o => ?_
 dsimp only [gf_ak9] at h
 exact cls
theorem d_bs9 : OkC [c_ak9] c_bs9 if_br9 ks_br9 := by
 refine ok fun G H ⟨a0, a1⟩ r h => ?_
 have H_ak9 := H _ (.head _)
 replace H := hpre 0 H
 refine st1 fun bs t o => ?_
 dsimp only [gf_bs9] at h
 try (refine gx ?_; intros; rename_i h)
 obtain ⟨hf, h⟩ := gd h
 obtain ⟨q14, hq, h⟩ := bnd h
 refine w_lastK [] [] (fun K J t o => ∃ q14_, q14 = .inr q14_ ∧ PP K J t o) ?_ ?_
 ·have ho1 := h
  refine w_lpL (xs := a0) [0, 1, 7] [] 0 hf (fun K J l18 k16 t o => gl_bs9_1 a1 l18 k16  = some q14 ∧ PP ((8, .v (.int .i64 (k16 : Int))) :: K) J t o) ?_ ?_ ?_
  ·exact ⟨hq, pin, pinh⟩
  ·rintro k16 t o hlt ⟨h, pq⟩
   refine pn pq ?_
   rw [gl_bs9_1] at h
   exact cls
  rintro x17 l18 k16 t o hlt hx22 hw hd ⟨h, pq⟩
  refine pn pq ?_
  rw [gl_bs9_1] at h
  try (refine gx ?_; intros; rename_i h)
  obtain ⟨x25, h26, h⟩ := bnd h
  refine c_calld (c := c_ak9) (x17, a1) H_ak9 h26 fun ch => ?_
  exact cls
 rintro t o ⟨q14, rfl, pq⟩
 refine pnq pq ?_
 exact cls
theorem d_aj9 : OkC [c_bs9] c_aj9 if_aj9 ks_aj9 := by
 refine ok fun G H ⟨a0, a1⟩ r h => ?_
 refine st1 fun bs t o => ?_
 dsimp only [gf_aj9] at h
 exact cls
theorem d_bh9 : OkC [c_bx9] c_bh9 if_bh9 ks_bh9 := by
 refine ok fun G H ⟨a0, a1⟩ r h => ?_
 refine st1 fun bs t o => ?_
 dsimp only [gf_bh9] at h
 exact cls
theorem d_am9 : OkC [] c_am9 if_am9 ks_am9 := by
 refine ok fun G H ⟨a0, a1⟩ r h => ?_
 refine st1 fun bs t o => ?_
 dsimp only [gf_am9] at h
 exact cls
theorem d_bw9 : OkC [c_am9] c_bw9 if_bv9 ks_bv9 := by
 refine ok fun G H ⟨a0, a1⟩ r h => ?_
 have H_am9 := H _ (.head _)
 replace H := hpre 0 H
 refine st1 fun bs t o => ?_
 dsimp only [gf_bw9] at h
 try (refine gx ?_; intros; rename_i h)
 obtain ⟨hf, h⟩ := gd h
 obtain ⟨q14, hq, h⟩ := bnd h
 refine w_lastK [] [] (fun K J t o => ∃ q14_, q14 = .inr q14_ ∧ PP K J t o) ?_ ?_
 ·have ho1 := h
  refine w_lpL (xs := a0) [0, 1, 7] [] 0 hf (fun K J l18 k16 t o => gl_bw9_1 a1 l18 k16  = some q14 ∧ PP ((8, .v (.int .i64 (k16 : Int))) :: K) J t o) ?_ ?_ ?_
  ·exact ⟨hq, pin, pinh⟩
  ·rintro k16 t o hlt ⟨h, pq⟩
   refine pn pq ?_
   rw [gl_bw9_1] at h
   exact cls
  rintro x17 l18 k16 t o hlt hx22 hw hd ⟨h, pq⟩
  refine pn pq ?_
  rw [gl_bw9_1] at h
  try (refine gx ?_; intros; rename_i h)
  obtain ⟨x25, h26, h⟩ := bnd h
  refine c_calld (c := c_am9) (x17, a1) H_am9 h26 fun ch => ?_
  exact cls
 rintro t o ⟨q14, rfl, pq⟩
 refine pnq pq ?_
 exact cls
theorem d_al9 : OkC [c_bw9] c_al9 if_al9 ks_al9 := by
 refine ok fun G H ⟨a0, a1⟩ r h => ?_
 refine st1 fun bs t o => ?_
 dsimp only [gf_al9] at h
 exact cls
theorem d_an9 : OkC [c_bf9] c_an9 if_an9 ks_an9 := by
 refine ok fun G H ⟨a0, a1⟩ r h => ?_
 refine st1 fun bs t o => ?_
 dsimp only [gf_an9] at h
 exact cls
theorem d_aw9 : OkC [] c_aw9 if_aw9 ks_aw9 := by
 refine ok fun G H a0 r h => ?_
 refine st1 fun bs t o => ?_
 dsimp only [gf_aw9] at h
 exact cls
theorem d_au9 : OkC [c_aw9] c_au9 if_au9 ks_au9 := by
 refine ok fun G H a0 r h => ?_
 refine st1 fun bs t o => ?_
 dsimp only [gf_au9] at h
 exact cls
theorem d_ax9 : OkC [c_au9] c_ax9 if_ax9 ks_ax9 := by
 refine ok fun G H a0 r h => ?_
 refine st1 fun bs t o => ?_
 dsimp only [gf_ax9] at h
 try (refine gx ?_; intros; rename_i h)
 obtain ⟨hf, h⟩ := gd h
 obtain ⟨q45, hq, h⟩ := bnd h
 refine w_lastK [] [] (fun K J t o => ∃ b71 c72, PP ((3, .ref 48 b71 c72 0 q45.length 100) :: K) ((48, ent b71 c72 100 (List.map (eFeat true) q45)) :: J) t o) ?_ ?_
 ·refine w_lpL (xs := a0) [7, 8] [] 0 hf (fun K J l52 k50 t o => ∃ v47 b48 c49, gl_ax9_1 l52 k50 v47 = some q45 ∧ PP ((3, .ref 48 b48 c49 0 v47.length 100) :: (9, .v (.int .i64 (k50 : Int))) :: K) ((48, ent b48 c49 100 (List.map (eFeat true) v47)) :: J) t o) ?_ ?_ ?_
  ·exact ⟨_, _, _, hq, pin, pinh⟩
  ·rintro k50 t o hlt ⟨v47, b48, c49, h, pq⟩
   refine pn pq ?_
   rw [gl_ax9_1] at h
   exact cls
  rintro x51 l52 k50 t o hlt hx56 hw hd ⟨v47, b48, c49, h, pq⟩
  refine pn pq ?_
  rw [gl_ax9_1] at h
  exact cls
 rintro t o ⟨b71, c72, pq⟩
 refine pnq pq ?_
 exact cls
theorem d_at9 : OkC [c_ax9] c_at9 if_at9 ks_at9 := by
 refine ok fun G H a0 r h => ?_
 refine st1 fun bs t o => ?_
 dsimp only [gf_at9] at h
 exact cls
theorem d_ah9 : OkC [c_bf9, c_aq9, c_as9, c_aj9, c_bh9, c_al9, c_an9] c_ah9 if_ah9 ks_ah9 := by
 refine ok fun G H a0 r h => ?_
 refine st1 fun bs t o => ?_
 dsimp only [gf_ah9] at h
 refine gx fun x2 h3 x4 h5 => ?_; intros; rename_i h
 obtain ⟨hf, h⟩ := gd h
 obtain ⟨q160, hq, h⟩ := bnd h
 refine w_lastK [1] [8] (fun K J t o => ∃ q160_, q160 = .inr q160_ ∧ PP K J t o) ?_ ?_
 ·have ho1 := h
  refine w_lpL (xs := a0.commits) [1, 22, 23] [8] 0 hf (fun K J l164 k162 t o => gl_ah9_4 a0 l164 k162  = some q160 ∧ PP ((24, .v (.int .i64 (k162 : Int))) :: K) J t o) ?_ ?_ ?_
  ·exact ⟨hq, pin, pinh⟩
  ·rintro k162 t o hlt ⟨h, pq⟩
   refine pn pq ?_
   rw [gl_ah9_4] at h
   exact cls
  rintro x163 l164 k162 t o hlt hx168 hw hd ⟨h, pq⟩
  refine pn pq ?_
  rw [gl_ah9_4] at h
  refine gx fun x172 h173 x174 h175 x176 h177 => ?_; intros; rename_i h
  obtain ⟨hf, h⟩ := gd h
  obtain ⟨q203, hq, h⟩ := bnd h
  refine w_lastK [1, 22, 23, 24, 34, 35, 36, 37, 40, 41, 42, 43, 44, 47, 48, 49, 50, 51, 52, 53, 56, 57, 58, 59] [8, 32] (fun K J t o => ∃ q203_, q203 = .inr q203_ ∧ PP K J t o) ?_ ?_
  ·have ho2 := h
   refine w_lpL (xs := x163.up) [1, 3, 4, 22, 23, 24, 34, 35, 36, 37, 40, 41, 42, 43, 44, 47, 48, 49, 50, 51, 52, 53, 56, 57, 58, 59, 62, 63] [8, 32] 0 hf (fun K J l207 k205 t o => gl_ah9_5 k162 x163 l207 k205  = some q203 ∧ PP ((64, .v (.int .i64 (k205 : Int))) :: K) J t o) ?_ ?_ ?_
   ·exact ⟨hq, pin, pinh⟩
   ·rintro k205 t o hlt ⟨h, pq⟩
    refine pn pq ?_
    rw [gl_ah9_5] at h
    exact cls
   rintro x206 l207 k205 t o hlt hx211 hw hd ⟨h, pq⟩
   refine pn pq ?_
   rw [gl_ah9_5] at h
   exact cls
  rintro t o ⟨q203, rfl, pq⟩
  refine pnq pq ?_
  exact cls
 rintro t o ⟨q160, rfl, pq⟩
 refine pnq pq ?_
 try (refine gx ?_; intros; rename_i h)
 obtain ⟨hf, h⟩ := gd h
 obtain ⟨q248, hq, h⟩ := bnd h
 refine w_lastK [] [] (fun K J t o => ∃ q248_, q248 = .inr q248_ ∧ PP K J t o) ?_ ?_
 ·have ho1 := h
  refine w_lpL (xs := a0.heads) [1, 85, 86] [8] 0 hf (fun K J l252 k250 t o => gl_ah9_6 a0 l252 k250  = some q248 ∧ PP ((87, .v (.int .i64 (k250 : Int))) :: K) J t o) ?_ ?_ ?_
  ·exact ⟨hq, pin, pinh⟩
  ·rintro k250 t o hlt ⟨h, pq⟩
   refine pn pq ?_
   rw [gl_ah9_6] at h
   exact cls
  rintro x251 l252 k250 t o hlt hx256 hw hd ⟨h, pq⟩
  refine pn pq ?_
  rw [gl_ah9_6] at h
  exact cls
 rintro t o ⟨q248, rfl, pq⟩
 refine pnq pq ?_
 exact cls
theorem d_az9 : OkC [] c_az9 if_az9 ks_az9 := by
 refine ok fun G H ⟨a0, a1⟩ r h => ?_
 refine st1 fun bs t o => ?_
 dsimp only [gf_az9] at h
 exact cls
theorem d_bu9 : OkC [c_az9] c_bu9 if_bt9 ks_bt9 := by
 refine ok fun G H ⟨a0, a1⟩ r h => ?_
 have H_az9 := H _ (.head _)
 replace H := hpre 0 H
 refine st1 fun bs t o => ?_
 dsimp only [gf_bu9] at h
 try (refine gx ?_; intros; rename_i h)
 obtain ⟨hf, h⟩ := gd h
 obtain ⟨q14, hq, h⟩ := bnd h
 refine w_lastK [] [] (fun K J t o => ∃ q14_, q14 = .inr q14_ ∧ PP K J t o) ?_ ?_
 ·have ho1 := h
  refine w_lpL (xs := a0) [0, 1, 7] [] 0 hf (fun K J l18 k16 t o => gl_bu9_1 a1 l18 k16  = some q14 ∧ PP ((8, .v (.int .i64 (k16 : Int))) :: K) J t o) ?_ ?_ ?_
  ·exact ⟨hq, pin, pinh⟩
  ·rintro k16 t o hlt ⟨h, pq⟩
   refine pn pq ?_
   rw [gl_bu9_1] at h
   exact cls
  rintro x17 l18 k16 t o hlt hx22 hw hd ⟨h, pq⟩
  refine pn pq ?_
  rw [gl_bu9_1] at h
  try (refine gx ?_; intros; rename_i h)
  obtain ⟨x25, h26, h⟩ := bnd h
  refine c_calld (c := c_az9) (x17, a1) H_az9 h26 fun ch => ?_
  exact cls
 rintro t o ⟨q14, rfl, pq⟩
 refine pnq pq ?_
 exact cls
theorem d_ay9 : OkC [c_bu9] c_ay9 if_ay9 ks_ay9 := by
 refine ok fun G H ⟨a0, a1⟩ r h => ?_
 refine st1 fun bs t o => ?_
 dsimp only [gf_ay9] at h
 exact cls
end Go.Proofs.AM
