/- Lemmas of the proof (RIF2), on an abstract machine. Conditions: none. -/
import Derived.Test.YtodmjmkakgamlaaGreatDoorRID
set_option linter.unusedVariables false
set_option linter.unusedSimpArgs false
set_option maxRecDepth 100000
set_option maxHeartbeats 4000000
namespace Go.Proofs.AM
attribute [local irreducible] vwp vstps vstpLs vstp vdo vret kseq kblk kloop kend kcut kloop2 frzV renV shutK pfzV trnV unrV
theorem d_av9 : OkC [c_bo9] c_av9 if_av9 ks_av9 := by
 refine ok fun G H ⟨a0, a1⟩ r h => ?_
 refine st1 fun bs t o => ?_
 dsimp only [gf_av9] at h
 exact cls
theorem d_bs9 : OkC [] c_bs9 if_bs9 ks_bs9 := by
 refine ok fun G H ⟨a0, a1⟩ r h => ?_
 refine st1 fun bs t o => ?_
 dsimp only [gf_bs9] at h
 try (refine gx ?_; intros; rename_i h)
 obtain ⟨hf, h⟩ := gd h
 obtain ⟨q14, hq, h⟩ := bnd h
 refine w_lastK [] [] (fun K J t o => ∃ q14_, q14 = .inr q14_ ∧ PP K J t o) ?_ ?_
 ·have ho1 := h
  refine w_lpL (xs := a0) [0, 1, 12] [] 0 hf (fun K J l18 k16 t o => gl_bs9_1 a1 l18 k16  = some q14 ∧ PP ((13, .v (.int .i64 (k16 : Int))) :: K) J t o) ?_ ?_ ?_
  ·exact ⟨hq, pin, pinh⟩
  ·rintro k16 t o hlt ⟨h, pq⟩
   refine pn pq ?_
   rw [gl_bs9_1] at h
   exact cls
  rintro x17 l18 k16 t o hlt hx22 hw hd ⟨h, pq⟩
  refine pn pq ?_
  rw [gl_bs9_1] at h
  exact cls
 rintro t o ⟨q14, rfl, pq⟩
 refine pnq pq ?_
 exact cls
theorem d_be9 : OkC [c_bs9, c_av9] c_be9 if_be9 ks_be9 := by
 refine ok fun G H ⟨a0, a1⟩ r h => ?_
 refine st1 fun bs t o => ?_
 dsimp only [gf_be9] at h
 exact cls
theorem d_bz9 : OkC [] c_bz9 if_bz9 ks_bz9 := by
 refine ok fun G H ⟨a0, a1⟩ r h => ?_
 refine st1 fun bs t o => ?_
 dsimp only [gf_bz9] at h
 try (refine gx ?_; intros; rename_i h)
 obtain ⟨hf, h⟩ := gd h
 obtain ⟨q8, hq, h⟩ := bnd h
 refine w_lastK [] [] (fun K J t o => ∃ q8_, q8 = .inr q8_ ∧ PP K J t o) ?_ ?_
 ·have ho1 := h
  refine w_lpL (xs := a0) [0, 1, 7] [] 0 hf (fun K J l12 k10 t o => gl_bz9_1 a1 l12 k10  = some q8 ∧ PP ((8, .v (.int .i64 (k10 : Int))) :: K) J t o) ?_ ?_ ?_
  ·exact ⟨hq, pin, pinh⟩
  ·rintro k10 t o hlt ⟨h, pq⟩
   refine pn pq ?_
   rw [gl_bz9_1] at h
   exact cls
  rintro x11 l12 k10 t o hlt hx16 hw hd ⟨h, pq⟩
  refine pn pq ?_
  rw [gl_bz9_1] at h
  exact cls
 rintro t o ⟨q8, rfl, pq⟩
 refine pnq pq ?_
 exact cls
theorem d_au9 : OkC [c_af9] c_au9 if_au9 ks_au9 := by
 refine ok fun G H a0 r h => ?_
 refine st1 fun bs t o => ?_
 dsimp only [gf_au9] at h
 try (refine gx ?_; intros; rename_i h)
 obtain ⟨hf, h⟩ := gd h
 obtain ⟨q21, hq, h⟩ := bnd h
 refine w_lastK [0] [] (fun K J t o => ∃ q21_, q21 = .inr q21_ ∧ PP K J t o) ?_ ?_
 ·have ho1 := h
  refine w_lpL (xs := a0) [0, 5, 6] [] 0 hf (fun K J l25 k23 t o => gl_au9_1 a0 l25 k23  = some q21 ∧ PP ((7, .v (.int .i64 (k23 : Int))) :: K) J t o) ?_ ?_ ?_
  ·exact ⟨hq, pin, pinh⟩
  ·rintro k23 t o hlt ⟨h, pq⟩
   refine pn pq ?_
   rw [gl_au9_1] at h
   exact cls
  rintro x24 l25 k23 t o hlt hx29 hw hd ⟨h, pq⟩
  refine pn pq ?_
  rw [gl_au9_1] at h
  exact cls
 rintro t o ⟨q21, rfl, pq⟩
 refine pnq pq ?_
 exact cls
theorem d_an9 : OkC [c_be9] c_an9 if_an9 ks_an9 := by
 refine ok fun G H ⟨a0, a1⟩ r h => ?_
 refine st1 fun bs t o => ?_
 dsimp only [gf_an9] at h
 exact cls
theorem d_bu9 : OkC [c_an9] c_bu9 if_bt9 ks_bt9 := by
 refine ok fun G H ⟨a0, a1⟩ r h => ?_
 have H_an9 := H _ (.head _)
 replace H := hpre 0 H
 refine st1 fun bs t o => ?_
 dsimp only [gf_bu9] at h
 try (refine gx ?_; intros; rename_i h)
 obtain ⟨hf, h⟩ := gd h
 obtain ⟨q14, hq, h⟩ := bnd h
 refine w_lastK [] [] (fun K J t o => ∃ q14_, q14 = .inr q14_ ∧ PP K J t o) ?_ ?_
 ·have ho1 := h
  refine w_lpL (xs := a0) [0, 1, 7] [] 0 hf (fun K J l18 k16 t o => gl_bu9_1 a1 l18 k16  = some q14 ∧ PP ((8, .v (.int .i64 (k16 : Int))) :: K) J t o) ?_ ?_ ?_
  ·exact ⟨hq, pin, pinh⟩
  ·rintro k16 t o hlt ⟨h, pq⟩
   refine pn pq ?_
   rw [gl_bu9_1] at h
   exact cls
  rintro x17 l18 k16 t o hlt hx22 hw hd ⟨h, pq⟩
  refine pn pq ?_
  rw [gl_bu9_1] at h
  try (refine gx ?_; intros; rename_i h)
  obtain ⟨x25, h26, h⟩ := bnd h
  refine c_calld (c := c_an9) (x17, a1) H_an9 h26 fun ch => ?_
  exact cls
 rintro t o ⟨q14, rfl, pq⟩
 refine pnq pq ?_
 exact cls
theorem d_am9 : OkC [c_bu9] c_am9 if_am9 ks_am9 := by
 refine ok fun G H ⟨a0, a1⟩ r h => ?_
 refine st1 fun bs t o => ?_
 dsimp only [gf_am9] at h
 exact cls
theorem d_bk9 : OkC [c_bz9] c_bk9 if_bk9 ks_bk9 := by
 refine ok fun G H ⟨a0, a1⟩ r h => ?_
 refine st1 fun bs t o => ?_
 dsimp only [gf_bk9] at h
 exact cls
theorem d_ap9 : OkC [] c_ap9 if_ap9 ks_ap9 := by
 refine ok fun G H ⟨a0, a1⟩ r h => ?_
 refine st1 fun bs t o => ?_
 dsimp only [gf_ap9] at h
 exact cls
theorem d_by9 : OkC [c_ap9] c_by9 if_bx9 ks_bx9 := by
 refine ok fun G H ⟨a0, a1⟩ r h => ?_
 have H_ap9 := H _ (.head _)
 replace H := hpre 0 H
 refine st1 fun bs t o => ?_
 dsimp only [gf_by9] at h
 try (refine gx ?_; intros; rename_i h)
 obtain ⟨hf, h⟩ := gd h
 obtain ⟨q14, hq, h⟩ := bnd h
 refine w_lastK [] [] (fun K J t o => ∃ q14_, q14 = .inr q14_ ∧ PP K J t o) ?_ ?_
 ·have ho1 := h
  refine w_lpL (xs := a0) [0, 1, 7] [] 0 hf (fun K J l18 k16 t o => gl_by9_1 a1 l18 k16  = some q14 ∧ PP ((8, .v (.int .i64 (k16 : Int))) :: K) J t o) ?_ ?_ ?_
  ·exact ⟨hq, pin, pinh⟩
  ·rintro k16 t o hlt ⟨h, pq⟩
   refine pn pq ?_
   rw [gl_by9_1] at h
   exact cls
  rintro x17 l18 k16 t o hlt hx22 hw hd ⟨h, pq⟩
  refine pn pq ?_
  rw [gl_by9_1] at h
  try (refine gx ?_; intros; rename_i h)
  obtain ⟨x25, h26, h⟩ := bnd h
  refine c_calld (c := c_ap9) (x17, a1) H_ap9 h26 fun ch => ?_
  exact cls
 rintro t o ⟨q14, rfl, pq⟩
 refine pnq pq ?_
 exact cls
theorem d_ao9 : OkC [c_by9] c_ao9 if_ao9 ks_ao9 := by
 refine ok fun G H ⟨a0, a1⟩ r h => ?_
 refine st1 fun bs t o => ?_
 dsimp only [gf_ao9] at h
 exact cls
theorem d_aq9 : OkC [c_bh9] c_aq9 if_aq9 ks_aq9 := by
 refine ok fun G H ⟨a0, a1⟩ r h => ?_
 refine st1 fun bs t o => ?_
 dsimp only [gf_aq9] at h
 exact cls
theorem d_ay9 : OkC [] c_ay9 if_ay9 ks_ay9 := by
 refine ok fun G H a0 r h => ?_
 refine st1 fun bs t o => ?_
 dsimp only [gf_ay9] at h
 exact cls
theorem d_ax9 : OkC [c_ay9] c_ax9 if_ax9 ks_ax9 := by
 refine ok fun G H a0 r h => ?_
 refine st1 fun bs t o => ?_
 dsimp only [gf_ax9] at h
 exact cls
theorem d_ak9 : OkC [c_bh9, c_au9, c_aw9, c_am9, c_bk9, c_ao9, c_aq9] c_ak9 if_ak9 ks_ak9 := by
 refine ok fun G H a0 r h => ?_
 refine st1 fun bs t o => ?_
 dsimp only [gf_ak9] at h
 refine gx fun x2 h3 x4 h5 => ?_; intros; rename_i h
 obtain ⟨hf, h⟩ := gd h
 obtain ⟨q160, hq, h⟩ := bnd h
 refine w_lastK [1] [8] (fun K J t o => ∃ q160_, q160 = .inr q160_ ∧ PP K J t o) ?_ ?_
 ·have ho1 := h
  refine w_lpL (xs := a0.commits) [1, 22, 23] [8] 0 hf (fun K J l164 k162 t o => gl_ak9_4 a0 l164 k162  = some q160 ∧ PP ((24, .v (.int .i64 (k162 : Int))) :: K) J t o) ?_ ?_ ?_
  ·exact ⟨hq, pin, pinh⟩
  ·rintro k162 t o hlt ⟨h, pq⟩
   refine pn pq ?_
   rw [gl_ak9_4] at h
   exact cls
  rintro x163 l164 k162 t o hlt hx168 hw hd ⟨h, pq⟩
  refine pn pq ?_
  rw [gl_ak9_4] at h
  refine gx fun x172 h173 x174 h175 x176 h177 => ?_; intros; rename_i h
  obtain ⟨hf, h⟩ := gd h
  obtain ⟨q203, hq, h⟩ := bnd h
  refine w_lastK [1, 22, 23, 24, 34, 35, 36, 37, 40, 41, 42, 43, 44, 47, 48, 49, 50, 51, 52, 53, 56, 57, 58, 59] [8, 32] (fun K J t o => ∃ q203_, q203 = .inr q203_ ∧ PP K J t o) ?_ ?_
  ·have ho2 := h
   refine w_lpL (xs := x163.up) [1, 3, 4, 22, 23, 24, 34, 35, 36, 37, 40, 41, 42, 43, 44, 47, 48, 49, 50, 51, 52, 53, 56, 57, 58, 59, 62, 63] [8, 32] 0 hf (fun K J l207 k205 t o => gl_ak9_5 k162 x163 l207 k205  = some q203 ∧ PP ((64, .v (.int .i64 (k205 : Int))) :: K) J t o) ?_ ?_ ?_
   ·exact ⟨hq, pin, pinh⟩
   ·rintro k205 t o hlt ⟨h, pq⟩
    refine pn pq ?_
    rw [gl_ak9_5] at h
    exact cls
   rintro x206 l207 k205 t o hlt hx211 hw hd ⟨h, pq⟩
   refine pn pq ?_
   rw [gl_ak9_5] at h
   exact cls
  rintro t o ⟨q203, rfl, pq⟩
  refine pnq pq ?_
  exact cls
 rintro t o ⟨q160, rfl, pq⟩
 refine pnq pq ?_
 try (refine gx ?_; intros; rename_i h)
 obtain ⟨hf, h⟩ := gd h
 obtain ⟨q248, hq, h⟩ := bnd h
 refine w_lastK [] [] (fun K J t o => ∃ q248_, q248 = .inr q248_ ∧ PP K J t o) ?_ ?_
 ·have ho1 := h
  refine w_lpL (xs := a0.heads) [1, 85, 86] [8] 0 hf (fun K J l252 k250 t o => gl_ak9_6 a0 l252 k250  = some q248 ∧ PP ((87, .v (.int .i64 (k250 : Int))) :: K) J t o) ?_ ?_ ?_
  ·exact ⟨hq, pin, pinh⟩
  ·rintro k250 t o hlt ⟨h, pq⟩
   refine pn pq ?_
   rw [gl_ak9_6] at h
   exact cls
  rintro x251 l252 k250 t o hlt hx256 hw hd ⟨h, pq⟩
  refine pn pq ?_
  rw [gl_ak9_6] at h
  exact cls
 rintro t o ⟨q248, rfl, pq⟩
 refine pnq pq ?_
 exact cls


theorem d_ba9 : OkC [] c_ba9 if_ba9 ks_ba9 := by
 refine ok fun G H ⟨a0, a1⟩ r h => ?_
 refine st1 fun bs t o => ?_
 dsimp only [gf_ba9] at h
 exact cls
theorem d_bw9 : OkC [c_ba9] c_bw9 if_bv9 ks_bv9 := by
 refine ok fun G H ⟨a0, a1⟩ r h => ?_
 have H_ba9 := H _ (.head _)
 replace H := hpre 0 H
 refine st1 fun bs t o => ?_
 dsimp only [gf_bw9] at h
 try (refine gx ?_; intros; rename_i h)
 obtain ⟨hf, h⟩ := gd h
 obtain ⟨q14, hq, h⟩ := bnd h
 refine w_lastK [] [] (fun K J t o => ∃ q14_, q14 = .inr q14_ ∧ PP K J t o) ?_ ?_
 ·have ho1 := h
  refine w_lpL (xs := a0) [0, 1, 7] [] 0 hf (fun K J l18 k16 t o => gl_bw9_1 a1 l18 k16  = some q14 ∧ PP ((8, .v (.int .i64 (k16 : Int))) :: K) J t o) ?_ ?_ ?_
  ·exact ⟨hq, pin, pinh⟩
  ·rintro k16 t o hlt ⟨h, pq⟩
   refine pn pq ?_
   rw [gl_bw9_1] at h
   exact cls
  rintro x17 l18 k16 t o hlt hx22 hw hd ⟨h, pq⟩
  refine pn pq ?_
  rw [gl_bw9_1] at h
  try (refine gx ?_; intros; rename_i h)
  obtain ⟨x25, h26, h⟩ := bnd h
  refine c_calld (c := c_ba9) (x17, a1) H_ba9 h26 fun ch => ?_
  exact cls
 rintro t o ⟨q14, rfl, pq⟩
 refine pnq pq ?_
 exact cls
theorem d_az9 : OkC [c_bw9] c_az9 if_az9 ks_az9 := by
 refine ok fun G H ⟨a0, a1⟩ r h => ?_
 refine st1 fun bs t o => ?_
 dsimp only [gf_az9] at h
 exact cls
theorem d_bf9 : OkC [c_az9, c_ax9] c_bf9 if_bf9 ks_bf9 := by
 refine ok fun G H ⟨a0, a1⟩ r h => ?_
 refine st1 fun bs t o => ?_
 dsimp only [gf_bf9] at h
 exact cls
theorem d_bb9 : OkC [c_bj9, c_ca9] c_bb9 if_bb9 ks_bb9 := by
 refine ok fun G H a0 r h => ?_
 have H_ca9 := H _ (.tail _ (.head _))
 replace H := hpre 1 H
 refine st1 fun bs t o => ?_
 dsimp only [gf_bb9] at h
 try (refine gx ?_; intros; rename_i h)
 obtain ⟨hf, h⟩ := gd h
 obtain ⟨q153, hq, h⟩ := bnd h
 refine w_lastK [] [] (fun K J t o => ∃ b215 c216, PP ((3, .ref 64 b215 c216 0 q153.length 49) :: K) ((64, ent b215 c216 49 (List.map eStr q153)) :: J) t o) ?_ ?_
 ·refine w_lpL (xs := a0) [9, 10] [] 0 hf (fun K J l160 k158 t o => ∃ v155 b156 c157, gl_bb9_4 l160 k158 v155 = some q153 ∧ PP ((3, .ref 64 b156 c157 0 v155.length 49) :: (11, .v (.int .i64 (k158 : Int))) :: K) ((64, ent b156 c157 49 (List.map eStr v155)) :: J) t o) ?_ ?_ ?_
  ·exact ⟨_, _, _, hq, pin, pinh⟩
  ·rintro k158 t o hlt ⟨v155, b156, c157, h, pq⟩
   refine pn pq ?_
   rw [gl_bb9_4] at h
   exact cls
  rintro x159 l160 k158 t o hlt hx164 hw hd ⟨v155, b156, c157, h, pq⟩
  refine pn pq ?_
  rw [gl_bb9_4] at h
  try (refine gx ?_; intros; rename_i h)
  obtain ⟨hf, h⟩ := gd h
  obtain ⟨q192, hq, h⟩ := bnd h
  refine w_lastK [9, 10, 11] [] (fun K J t o => ∃ b212 c213, PP ((3, .ref 64 b212 c213 0 q192.length 49) :: K) ((64, ent b212 c213 49 (List.map eStr q192)) :: J) t o) ?_ ?_
  ·refine w_lpL (xs := x159) [9, 10, 11, 15, 16] [] 0 hf (fun K J l199 k197 t o => ∃ v194 b195 c196, gl_bb9_5 l199 k197 v194 = some q192 ∧ PP ((3, .ref 64 b195 c196 0 v194.length 49) :: (17, .v (.int .i64 (k197 : Int))) :: K) ((64, ent b195 c196 49 (List.map eStr v194)) :: J) t o) ?_ ?_ ?_
   ·exact ⟨_, _, _, hq, pin, pinh⟩
   ·rintro k197 t o hlt ⟨v194, b195, c196, h, pq⟩
    refine pn pq ?_
    rw [gl_bb9_5] at h
    exact cls
   rintro x198 l199 k197 t o hlt hx203 hw hd ⟨v194, b195, c196, h, pq⟩
   refine pn pq ?_
   rw [gl_bb9_5] at h
   exact cls
  rintro t o ⟨b212, c213, pq⟩
  refine pnq pq ?_
  exact cls
 rintro t o ⟨b215, c216, pq⟩
 refine pnq pq ?_
 try (refine gx ?_; intros; rename_i h)
 obtain ⟨x217, h218, h⟩ := bnd h
 have L218 := l_ca9 h218; (try dsimp only at L218); refine c_callg (c := c_ca9) (q153) H_ca9 h218 fun ch => ?_; rw [← L218]
 exact cls
theorem d_ct9 : OkC [] c_ct9 if_ct9 ks_ct9 := by
 refine ok fun G H ⟨a0, g0, g1⟩ r h => ?_
 refine st1 fun bs t o => ?_
 dsimp only [gf_ct9] at h
 try (refine gx ?_; intros; rename_i h)
 obtain ⟨x1, h2, h⟩ := bnd h
 refine r_slsraw (f := eU8) rfl rfl rfl h2 ?_
 exact cls
theorem d_cw9 : OkC [] c_cw9 if_cw9 ks_cw9 := by
 refine ok fun G H ⟨a0, a1, g0, g1⟩ r h => ?_
 refine st1 fun bs t o => ?_
 dsimp only [gf_cw9] at h
 refine go ?_;intros
 refine s_split rfl (fun c => ?_) (fun c => ?_)
 ·replace h := itt h c
  rw [c]
  refine go ?_;intros
  cases h
  exact r_endg
 replace h := itf h c
 rw [c]
 refine go ?_;intros
 refine w_cond rfl (fun c => ?_) (fun c => ?_)
 ·replace h := itt h (by first | exact c | (have c2 := c; simp only [List.length_map] at c2; exact c2))
  try rw [c]
  refine go ?_;intros
  cases h
  exact r_endg
 replace h := itf h (by first | exact c | (have c2 := c; simp only [List.length_map] at c2; exact c2))
 try rw [c]
 refine go ?_;intros
 refine w_cond rfl (fun c => ?_) (fun c => ?_)
 ·replace h := itt h (by first | exact c | (have c2 := c; simp only [List.length_map] at c2; exact c2))
  try rw [c]
  obtain ⟨x1, h2, h⟩ := bnd h
  refine go ?_;intros
  refine r_iro rfl rfl h2 rfl ?_
  obtain ⟨x3, h4, h⟩ := bnd h
  refine go ?_;intros
  refine r_imod rfl rfl h4 ?_
  refine go ?_;intros
  cases h
  exact r_endg
 replace h := itf h (by first | exact c | (have c2 := c; simp only [List.length_map] at c2; exact c2))
 try rw [c]
 obtain ⟨x5, h6, h⟩ := bnd h
 refine go ?_;intros
 refine r_imod rfl rfl h6 ?_
 obtain ⟨x7, h8, h⟩ := bnd h
 refine go ?_;intros
 refine r_iro rfl rfl h8 rfl ?_
 obtain ⟨x9, h10, h⟩ := bnd h
 refine go ?_;intros
 refine r_imod rfl rfl h10 ?_
 obtain ⟨x11, h12, h⟩ := bnd h
 refine go ?_;intros
 refine r_iro rfl rfl h12 rfl ?_
 obtain ⟨x13, h14, h⟩ := bnd h
 refine go ?_;intros
 refine r_idiv rfl rfl h14 ?_
 refine go ?_;intros
 refine r_ixor rfl rfl ?_
 obtain ⟨x15, h16, h⟩ := bnd h
 refine go ?_;intros
 refine r_imod rfl rfl h16 ?_
 refine go ?_;intros
 cases h
 exact r_endg
theorem d_cv9 : OkC [c_cw9] c_cv9 if_cv9 ks_cv9 := by
 refine ok fun G H ⟨a0, a1, g0, g1⟩ r h => ?_
 refine st1 fun bs t o => ?_
 dsimp only [gf_cv9] at h
 exact cls
theorem d_dj9 : OkC [c_cv9] c_dj9 if_dj9 ks_dj9 := by
 refine ok fun G H ⟨a0, g0, g1⟩ r h => ?_
 refine st1 fun bs t o => ?_
 dsimp only [gf_dj9] at h
 exact cls
theorem d_dk9 : OkC [c_cv9] c_dk9 if_dk9 ks_dk9 := by
 refine ok fun G H ⟨a0, g0, g1⟩ r h => ?_
 refine st1 fun bs t o => ?_
 dsimp only [gf_dk9] at h
 exact cls
theorem d_do9 : OkC [c_cv9] c_do9 if_do9 ks_do9 := by
 refine ok fun G H ⟨a0, g0, g1⟩ r h => ?_
 refine st1 fun bs t o => ?_
 dsimp only [gf_do9] at h
 exact cls
theorem d_cu9 : OkC [c_cw9] c_cu9 if_cu9 ks_cu9 := by
 refine ok fun G H ⟨a0, a1, g0, g1⟩ r h => ?_
 refine st1 fun bs t o => ?_
 dsimp only [gf_cu9] at h
 exact cls
theorem d_db9 : OkC [c_cw9, c_cu9] c_db9 if_db9 ks_db9 := by
 refine ok fun G H ⟨a0, g0, g1⟩ r h => ?_
 refine st1 fun bs t o => ?_
 dsimp only [gf_db9] at h
 exact cls
theorem d_cz9 : OkC [] c_cz9 if_cz9 ks_cz9 := by
 refine ok fun G H ⟨a0, a1⟩ r h => ?_
 refine st1 fun bs t o => ?_
 dsimp only [gf_cz9] at h
 exact cls
theorem d_de9 : OkC [c_cu9, c_cw9, c_cz9, c_db9, c_cm9] c_de9 if_de9 ks_de9 := by
 refine ok fun G H ⟨a0, g0, g1⟩ r h => ?_
 have H_cu9 := H _ (.head _)
 have H_cw9 := H _ (.tail _ (.head _))
 have H_cz9 := H _ (.tail _ (.tail _ (.head _)))
 have H_db9 := H _ (.tail _ (.tail _ (.tail _ (.head _))))
 have H_cm9 := H _ (.tail _ (.tail _ (.tail _ (.tail _ (.head _)))))
 refine st1 fun bs t o => ?_
 dsimp only [gf_de9] at h
 obtain ⟨x3, h4, h⟩ := bnd h
 refine go ?_;intros
 refine c_callg (c := c_cu9) (a0, ([1, 2, 2, 3, 3] : (List Int)), g0, g1) H_cu9 h4 fun ch => ?_
 obtain ⟨x6, h7, h⟩ := bnd h
 refine go ?_;intros
 refine c_callg (c := c_cw9) ((⟨a0.b, x3.2⟩ : Rd), 4, g0, g1) H_cw9 h7 fun ch => ?_
 obtain ⟨q8, h159, h⟩ := bnd h
 refine go ?_;intros
 refine w_cut (fun t o => ∃ b10 c11 b12 b13 c14 b15, Pin t (ovr [(0, .ptr 0 (bs 0).1 290 0 0), (2, .ptr 16 b12 226 0 0), (3, .ptr 24 b15 226 0 0), (4, .v (.int .i64 q8))] t) ∧ PinH o (ovh [(0, ⟨(bs 0).1, (bs 0).2, 290, true, [[.rw g0 g1 (List.map eU8 a0.b), .v (.int .i64 x6.2)]]⟩), (1000257, ent b10 c11 66 (List.map ePt [])), (16, ⟨b12, 1, 226, true, [[.v (.int .i64 0), .al 1000257 b10 c11 0 ([] : List Pt).length 66]]⟩), (1000385, ent b13 c14 66 (List.map ePt [])), (24, ⟨b15, 1, 226, true, [[.v (.int .i64 x3.1), .al 1000385 b13 c14 0 ([] : List Pt).length 66]]⟩)] o)) ?_ ?_
 ·refine go ?_;intros
  refine w_cond rfl (fun c => ?_) (fun c => ?_)
  ·replace h159 := itt h159 c
   try rw [c]
   refine go ?_;intros
   cases h159
   exact k_cn ⟨_, _, _, _, _, _, pin, pinh⟩
  replace h159 := itf h159 c
  try rw [c]
  refine go ?_;intros
  cases h159
  exact k_cn ⟨_, _, _, _, _, _, pin, pinh⟩
 rintro t o ⟨b10, c11, b12, b13, c14, b15, pq1, pq2⟩
 refine pinned pq1 pq2 ?_
 obtain ⟨q109, h160, h⟩ := bnd h
 refine go ?_;intros
 refine w_last (fun t o => ∃ b147 c148 b149 b151 c152 b153, Pin t (ovr [(0, .ptr 0 (bs 0).1 290 0 0), (2, .ptr 16 b149 226 0 0), (3, .ptr 24 b153 226 0 0)] t) ∧ PinH o (ovh [(0, ⟨(bs 0).1, (bs 0).2, 290, true, [[.rw g0 g1 (List.map eU8 a0.b), .v (.int .i64 q109.1)]]⟩), (1000257, ent b147 c148 66 (List.map ePt [])), (16, ⟨b149, 1, 226, true, [[.v (.int .i64 0), .al 1000257 b147 c148 0 ([] : List Pt).length 66]]⟩), (1000385, ent b151 c152 66 (List.map ePt q109.2)), (24, ⟨b153, 1, 226, true, [[.v (.int .i64 x3.1), .al 1000385 b151 c152 0 q109.2.length 66]]⟩)] o)) ?_ ?_
 ·refine w_loop2 (fun n t o => ∃ n119 v110 v111 v115 b112 c113 b114 b116 c117 b118, gl_de9_1 q8 a0 x3 n119 v110 v111 v115 = some q109 ∧ n119 = n ∧ Pin t (ovr [(0, .ptr 0 (bs 0).1 290 0 0), (2, .ptr 16 b114 226 0 0), (3, .ptr 24 b118 226 0 0), (4, .v (.int .i64 q8)), (5, .v (.int .i64 v110))] t) ∧ PinH o (ovh [(0, ⟨(bs 0).1, (bs 0).2, 290, true, [[.rw g0 g1 (List.map eU8 a0.b), .v (.int .i64 v111)]]⟩), (1000257, ent b112 c113 66 (List.map ePt [])), (16, ⟨b114, 1, 226, true, [[.v (.int .i64 0), .al 1000257 b112 c113 0 ([] : List Pt).length 66]]⟩), (1000385, ent b116 c117 66 (List.map ePt v115)), (24, ⟨b118, 1, 226, true, [[.v (.int .i64 x3.1), .al 1000385 b116 c117 0 v115.length 66]]⟩)] o)) _ ⟨_, _, _, _, _, _, _, _, _, _, h160, rfl, pin, pinh⟩ ?_
  rintro n t o ⟨n119, v110, v111, v115, b112, c113, b114, b116, c117, b118, h160, rfl, pq1, pq2⟩
  refine pinned pq1 pq2 ?_
  cases n119 with
  | zero => rw [gl_de9_1] at h160; cases h160
  | succ n119 =>
   rw [gl_de9_1] at h160
   refine go ?_;intros
   refine s_split rfl (fun c => ?_) (fun c => ?_)
   ·replace h160 := itt h160 c
    rw [c]
    obtain ⟨x120, h121, h160⟩ := bnd h160
    refine go ?_;intros
    refine c_call (c := c_cz9) (q8, 6) H_cz9 h121 fun ch => ?_
    refine go ?_;intros
    refine w_cond rfl (fun c => ?_) (fun c => ?_)
    ·replace h160 := itt h160 (by first | exact c | (have c2 := c; simp only [List.length_map] at c2; exact c2))
     try rw [c]
     obtain ⟨x122, h123, h160⟩ := bnd h160
     refine go ?_;intros
     refine c_callg (c := c_db9) ((⟨a0.b, v111⟩ : Rd), g0, g1) H_db9 h123 fun ch => ?_
     obtain ⟨q129, h161, h160⟩ := bnd h160
     refine go ?_;intros
     refine w_cut (fun t o => ∃ b135 c136 b137 b138 c139 b140 b141, Pin t (ovr [(0, .ptr 0 (bs 0).1 290 0 0), (2, .ptr 16 b137 226 0 0), (3, .ptr 24 b140 226 0 0), (4, .v (.int .i64 q8)), (5, .v (.int .i64 v110)), (6, .ptr 48 b141 66 0 0), (23, .ptr 24 b140 226 0 1), (24, .ref 1000385 b138 c139 0 v115.length 66), (25, .v (.int .i64 (v115.length : Int))), (26, .v (.int .i64 q8)), (27, .v (.int .i64 x120)), (28, .v (.bool true)), (61, .v (.bool q129))] t) ∧ PinH o (ovh [(0, ⟨(bs 0).1, (bs 0).2, 290, true, [[.rw g0 g1 (List.map eU8 a0.b), .v (.int .i64 x122.2)]]⟩), (1000257, ent b135 c136 66 (List.map ePt [])), (16, ⟨b137, 1, 226, true, [[.v (.int .i64 0), .al 1000257 b135 c136 0 ([] : List Pt).length 66]]⟩), (1000385, ent b138 c139 66 (List.map ePt v115)), (24, ⟨b140, 1, 226, true, [[.v (.int .i64 x3.1), .al 1000385 b138 c139 0 v115.length 66]]⟩), (48, ⟨b141, 1, 66, true, [[.v (.int .i64 x122.1.x), .v (.int .i64 x122.1.y)]]⟩)] o)) ?_ ?_
     ·refine go ?_;intros
      refine s_split rfl (fun c => ?_) (fun c => ?_)
      ·replace h161 := itt h161 (by first | exact c | (have c2 := c; simp only [List.length_map] at c2; exact c2))
       rw [c]
       refine go ?_;intros
       cases h161
       exact k_cn ⟨_, _, _, _, _, _, _, pin, pinh⟩
      replace h161 := itf h161 (by first | exact c | (have c2 := c; simp only [List.length_map] at c2; exact c2))
      rw [c]
      obtain ⟨x130, h131, h161⟩ := bnd h161
      refine go ?_;intros
      refine r_ire (xs := v115) rfl rfl h131 rfl ?_
      refine go ?_;intros
      refine r_lde (f := ePt) (xs := v115) (x := x130) rfl rfl (idx_get h131).2 rfl rfl rfl ?_
      refine go ?_;intros
      refine s_split rfl (fun c => ?_) (fun c => ?_)
      ·replace h161 := itt h161 c
       rw [c]
       refine go ?_;intros
       refine s_split rfl (fun c => ?_) (fun c => ?_)
       ·replace h161 := itt h161 c
        rw [c]
        refine go ?_;intros
        cases h161
        exact k_cn ⟨_, _, _, _, _, _, _, pin, pinh⟩
       replace h161 := itf h161 c
       rw [c]
       obtain ⟨x132, h133, h161⟩ := bnd h161
       refine go ?_;intros
       refine r_ire (xs := v115) rfl rfl h133 rfl ?_
       refine go ?_;intros
       refine r_lde (f := ePt) (xs := v115) (x := x132) rfl rfl (idx_get h133).2 rfl rfl rfl ?_
       refine go ?_;intros
       cases h161
       exact k_cn ⟨_, _, _, _, _, _, _, pin, pinh⟩
      replace h161 := itf h161 c
      rw [c]
      refine go ?_;intros
      cases h161
      exact k_cn ⟨_, _, _, _, _, _, _, pin, pinh⟩
     rintro t o ⟨b135, c136, b137, b138, c139, b140, b141, pq1, pq2⟩
     refine pinned pq1 pq2 ?_
     refine go ?_;intros
     refine w_cond rfl (fun c => ?_) (fun c => ?_)
     ·replace h160 := itt h160 c
      try rw [c]
      obtain ⟨h145, h160⟩ := gd h160
      refine go ?_;intros
      refine r_app (f := ePt) (xs := v115) (ys := ([x122.1] : (List Pt))) rfl (src_mv rfl rfl (by first | rfl | simp)) rfl rfl (by first | rfl | simp) h145 fun b143 c144 => ?_
      refine go ?_;intros
      exact k_ln2 _ (Nat.lt_succ_self _) ⟨_, _, _, _, _, _, _, _, _, _, h160, rfl, pin, pinh⟩
     replace h160 := itf h160 c
     try rw [c]
     refine go ?_;intros
     exact k_ln2 _ (Nat.lt_succ_self _) ⟨_, _, _, _, _, _, _, _, _, _, h160, rfl, pin, pinh⟩
    replace h160 := itf h160 (by first | exact c | (have c2 := c; simp only [List.length_map] at c2; exact c2))
    try rw [c]
    refine go ?_;intros
    cases h160
    exact k_cn ⟨_, _, _, _, _, _, pin, pinh⟩
   replace h160 := itf h160 c
   rw [c]
   refine go ?_;intros
   cases h160
   exact k_cn ⟨_, _, _, _, _, _, pin, pinh⟩
 rintro t o ⟨b147, c148, b149, b151, c152, b153, pq1, pq2⟩
 refine pinnedQ pq1 pq2 ?_
 obtain ⟨x154, h155, h⟩ := bnd h
 refine go ?_;intros
 refine c_call (c := c_cm9) ((⟨x3.1, q109.2⟩ : Shape)) H_cm9 h155 fun ch => ?_
 refine go ?_;intros
 refine w_cond rfl (fun c => ?_) (fun c => ?_)
 ·replace h := itt h c
  try rw [c]
  obtain ⟨x156, h157, h⟩ := bnd h
  refine go ?_;intros
  refine c_callg (c := c_db9) ((⟨a0.b, q109.1⟩ : Rd), g0, g1) H_db9 h157 fun ch => ?_
  refine go ?_;intros
  cases h
  exact r_endg
 replace h := itf h c
 try rw [c]
 refine go ?_;intros
 cases h
 exact r_endg
theorem d_di9 : OkC [c_de9, c_cw9, c_dk9, c_do9, c_dl9] c_di9 if_di9 ks_di9 := by
 refine ok fun G H ⟨a0, a1, g0, g1⟩ r h => ?_
 refine st1 fun bs t o => ?_
 dsimp only [gf_di9] at h
 refine gx fun x2 h3 x7 h8 => ?_; intros; rename_i h
 obtain ⟨q39, hq, h⟩ := bnd h
 refine w_lastK [4] [1000514, 1000515, 32] (fun K J t o => ∃ b4 c5 b56 c57 b58, PP ((5, .ptr 40 b58 100 0 0) :: K) ((1000642, ent b4 c5 66 (List.map ePt x2.1.pts)) :: (1000643, ent b56 c57 82 (List.map eTag q39.1)) :: (40, ⟨b58, 1, 100, true, [[.v (.string a1), .v (.int .i64 x2.1.kind), .al 1000642 b4 c5 0 x2.1.pts.length 66, .al 1000643 b56 c57 0 q39.1.length 82]]⟩) :: (0, ⟨(bs 0).1, (bs 0).2, 290, true, [[.rw g0 g1 (List.map eU8 a0.b), .v (.int .i64 q39.2)]]⟩) :: J) t o) ?_ ?_
 ·refine w_lpF [4] [1000514, 1000515, 32] (fun K J n46 t o => ∃ v40 v41 v42 b4 c5 b43 c44 b45, gl_di9_1 a0 n46 v40 v41 v42 = some q39 ∧ PP ((0, .ptr 0 (bs 0).1 290 0 0) :: (5, .ptr 40 b45 100 0 0) :: (6, .v (.int .i64 v40)) :: K) ((0, ⟨(bs 0).1, (bs 0).2, 290, true, [[.rw g0 g1 (List.map eU8 a0.b), .v (.int .i64 v41)]]⟩) :: (1000642, ent b4 c5 66 (List.map ePt x2.1.pts)) :: (1000643, ent b43 c44 82 (List.map eTag v42)) :: (40, ⟨b45, 1, 100, true, [[.v (.string a1), .v (.int .i64 x2.1.kind), .al 1000642 b4 c5 0 x2.1.pts.length 66, .al 1000643 b43 c44 0 v42.length 82]]⟩) :: J) t o) ?_ ?_
  ·exact ⟨_, _, _, _, _, _, _, _, hq, pin, pinh⟩
  rintro n46 t o ⟨v40, v41, v42, b4, c5, b43, c44, b45, h, pq⟩
  refine pn pq ?_
  cases n46 with
  | zero => rw [gl_di9_1] at h; cases h
  | succ n46 =>
   rw [gl_di9_1] at h
   exact cls
 rintro t o ⟨b4, c5, b56, c57, b58, pq⟩
 refine pnq pq ?_
 exact cls
end Go.Proofs.AM
