/- Lemmas of the proof (TJF6), on an abstract machine. Conditions: none. -/
import Derived.Test.YtnnfdbdheoajgabGreatTJD
set_option linter.unusedVariables false
set_option linter.unusedSimpArgs false
set_option maxRecDepth 100000
set_option maxHeartbeats 4000000
namespace Go.Proofs.AM
attribute [local irreducible] vwp vstps vstpLs vstp vdo vret kseq kblk kloop kend kcut kloop2 frzV renV shutK pfzV trnV unrV
theorem d_ak9 : OkC [c_bs9, c_aw9, c_ay9, c_al9, c_dz9, c_an9, c_aq9] c_ak9 if_ak9 ks_ak9 := by
 refine ok fun G H a0 r h => ?_
 refine st1 fun bs t o => ?_
 dsimp only [gf_ak9] at h
 refine gx fun x2 h3 x4 h5 => ?_; intros; rename_i h
 obtain ⟨hf, h⟩ := gd h
 obtain ⟨q160, hq, h⟩ := bnd h
 refine w_lastK [1] [8] (fun K J t o => ∃ q160_, q160 = .inr q160_ ∧ PP K J t o) ?_ ?_
 ·have ho1 := h
  refine w_lpL (xs := a0.commits) [1, 22, 23] [8] 0 hf (fun K J l164 k162 t o => gl_ak9_4 a0 l164 k162  = some q160 ∧ PP ((24, .v (.int .i64 (k162 : Int))) :: K) J t o) ?_ ?_ ?_
  ·exact ⟨hq, pin, pinh⟩
  ·rintro k162 t o hlt ⟨h, pq⟩
   refine pn pq ?_
   rw [gl_ak9_4] at h
   exact cls
  rintro x163 l164 k162 t o hlt hx168 hw hd ⟨h, pq⟩
  refine pn pq ?_
  rw [gl_ak9_4] at h
  refine gx fun x172 h173 x174 h175 x176 h177 => ?_; intros; rename_i h
  obtain ⟨hf, h⟩ := gd h
  obtain ⟨q203, hq, h⟩ := bnd h
  refine w_lastK [1, 22, 23, 24, 34, 35, 36, 37, 40, 41, 42, 43, 44, 47, 48, 49, 50, 51, 52, 53, 56, 57, 58, 59] [8, 32] (fun K J t o => ∃ q203_, q203 = .inr q203_ ∧ PP K J t o) ?_ ?_
  ·have ho2 := h
   refine w_lpL (xs := x163.up) [1, 3, 4, 22, 23, 24, 34, 35, 36, 37, 40, 41, 42, 43, 44, 47, 48, 49, 50, 51, 52, 53, 56, 57, 58, 59, 62, 63] [8, 32] 0 hf (fun K J l207 k205 t o => gl_ak9_5 k162 x163 l207 k205  = some q203 ∧ PP ((64, .v (.int .i64 (k205 : Int))) :: K) J t o) ?_ ?_ ?_
   ·exact ⟨hq, pin, pinh⟩
   ·rintro k205 t o hlt ⟨h, pq⟩
    refine pn pq ?_
    rw [gl_ak9_5] at h
    exact cls
   rintro x206 l207 k205 t o hlt hx211 hw hd ⟨h, pq⟩
   refine pn pq ?_
   rw [gl_ak9_5] at h
   exact cls
  rintro t o ⟨q203, rfl, pq⟩
  refine pnq pq ?_
  exact cls
 rintro t o ⟨q160, rfl, pq⟩
 refine pnq pq ?_
 try (refine gx ?_; intros; rename_i h)
 obtain ⟨hf, h⟩ := gd h
 obtain ⟨q248, hq, h⟩ := bnd h
 refine w_lastK [] [] (fun K J t o => ∃ q248_, q248 = .inr q248_ ∧ PP K J t o) ?_ ?_
 ·have ho1 := h
  refine w_lpL (xs := a0.heads) [1, 85, 86] [8] 0 hf (fun K J l252 k250 t o => gl_ak9_6 a0 l252 k250  = some q248 ∧ PP ((87, .v (.int .i64 (k250 : Int))) :: K) J t o) ?_ ?_ ?_
  ·exact ⟨hq, pin, pinh⟩
  ·rintro k250 t o hlt ⟨h, pq⟩
   refine pn pq ?_
   rw [gl_ak9_6] at h
   exact cls
  rintro x251 l252 k250 t o hlt hx256 hw hd ⟨h, pq⟩
  refine pn pq ?_
  rw [gl_ak9_6] at h
  exact cls
 rintro t o ⟨q248, rfl, pq⟩
 refine pnq pq ?_
 exact cls
theorem d_ap9 : OkC [] c_ap9 if_ap9 ks_ap9 := by
 refine ok fun G H ⟨a0, a1⟩ r h => ?_
 refine st1 fun bs t o => ?_
 dsimp only [gf_ap9] at h
 refine gx fun h4 x5 h6 => ?_; intros; rename_i h
 refine c_ste (f := eBool) (List.replicate ((a0.commits.length : Int)).toNat false) true (idx_get h6).2 ?_
 try (refine gx ?_; intros; rename_i h)
 obtain ⟨q128, hq, h⟩ := bnd h
 refine w_lastK [] [] (fun K J t o => ∃ b174 c175, PP ((5, .ref 96 b174 c175 0 q128.length 33) :: K) ((96, ent b174 c175 33 (List.map eBool q128)) :: J) t o) ?_ ?_
 ·refine w_lpF [2] [16] (fun K J n133 t o => ∃ v129 v130 b131 c132, gl_ap9_4 a0 n133 v129 v130 = some q128 ∧ PP ((5, .ref 96 b131 c132 0 v130.length 33) :: (6, .v (.int .i64 v129)) :: K) ((96, ent b131 c132 33 (List.map eBool v130)) :: J) t o) ?_ ?_
  ·exact ⟨_, _, _, _, hq, pin, pinh⟩
  rintro n133 t o ⟨v129, v130, b131, c132, h, pq⟩
  refine pn pq ?_
  cases n133 with
  | zero => rw [gl_ap9_4] at h; cases h
  | succ n133 =>
   rw [gl_ap9_4] at h
   refine gx fun x134 h135 x136 h137 => ?_; intros; rename_i h
   obtain ⟨hf, h⟩ := gd h
   obtain ⟨q154, hq, h⟩ := bnd h
   refine w_lastK [2, 6] [16] (fun K J t o => ∃ b171 c172, PP ((5, .ref 96 b171 c172 0 q154.length 33) :: K) ((96, ent b171 c172 33 (List.map eBool q154)) :: J) t o) ?_ ?_
   ·refine w_lpL (xs := x136.up) [2, 6, 30, 31] [16] 0 hf (fun K J l161 k159 t o => ∃ v156 b157 c158, gl_ap9_5 l161 k159 v156 = some q154 ∧ PP ((5, .ref 96 b157 c158 0 v156.length 33) :: (32, .v (.int .i64 (k159 : Int))) :: K) ((96, ent b157 c158 33 (List.map eBool v156)) :: J) t o) ?_ ?_ ?_
    ·exact ⟨_, _, _, hq, pin, pinh⟩
    ·rintro k159 t o hlt ⟨v156, b157, c158, h, pq⟩
     refine pn pq ?_
     rw [gl_ap9_5] at h
     exact cls
    rintro x160 l161 k159 t o hlt hx165 hw hd ⟨v156, b157, c158, h, pq⟩
    refine pn pq ?_
    rw [gl_ap9_5] at h
    refine gx fun x168 h169 => ?_; intros; rename_i h
    refine c_ste (f := eBool) v156 true (idx_get h169).2 ?_
    exact cls
   rintro t o ⟨b171, c172, pq⟩
   refine pnq pq ?_
   exact cls
 rintro t o ⟨b174, c175, pq⟩
 refine pnq pq ?_
 exact cls
theorem d_aj9 : OkC [c_ap9] c_aj9 if_aj9 ks_aj9 := by
 refine ok fun G H ⟨a0, a1, a2⟩ r h => ?_
 refine st1 fun bs t o => ?_
 dsimp only [gf_aj9] at h
 exact cls
theorem d_ep9 : OkC [c_aj9] c_ep9 if_eo9 ks_eo9 := by
 refine ok fun G H ⟨a0, a1, a2⟩ r h => ?_
 have H_aj9 := H _ (.head _)
 replace H := hpre 0 H
 refine st1 fun bs t o => ?_
 dsimp only [gf_ep9] at h
 try (refine gx ?_; intros; rename_i h)
 obtain ⟨hf, h⟩ := gd h
 obtain ⟨q14, hq, h⟩ := bnd h
 refine w_lastK [] [] (fun K J t o => ∃ q14_, q14 = .inr q14_ ∧ PP K J t o) ?_ ?_
 ·have ho1 := h
  refine w_lpL (xs := a0) [0, 1, 7] [] 0 hf (fun K J l18 k16 t o => gl_ep9_1 a1 a2 l18 k16  = some q14 ∧ PP ((8, .v (.int .i64 (k16 : Int))) :: K) J t o) ?_ ?_ ?_
  ·exact ⟨hq, pin, pinh⟩
  ·rintro k16 t o hlt ⟨h, pq⟩
   refine pn pq ?_
   rw [gl_ep9_1] at h
   exact cls
  rintro x17 l18 k16 t o hlt hx22 hw hd ⟨h, pq⟩
  refine pn pq ?_
  rw [gl_ep9_1] at h
  try (refine gx ?_; intros; rename_i h)
  obtain ⟨x25, h26, h⟩ := bnd h
  refine c_calld (c := c_aj9) (x17, a1, a2) H_aj9 h26 fun ch => ?_
  exact cls
 rintro t o ⟨q14, rfl, pq⟩
 refine pnq pq ?_
 exact cls
theorem d_dy9 : OkC [c_ep9] c_dy9 if_dx9 ks_dx9 := by
 refine ok fun G H ⟨a0, a1, a2⟩ r h => ?_
 refine st1 fun bs t o => ?_
 dsimp only [gf_dy9] at h
 exact cls
theorem d_ai9 : OkC [c_ak9, c_aq9, c_ap9, c_dy9] c_ai9 if_ai9 ks_ai9 := by
 refine ok fun G H ⟨a0, a1, a2⟩ r h => ?_
 refine st1 fun bs t o => ?_
 dsimp only [gf_ai9] at h
 refine gx fun x2 h3 x4 h5 x6 h7 x11 h12 x15 h16 => ?_; intros; rename_i h
 obtain ⟨q76, hq, h⟩ := bnd h
 refine w_lastK [] [] (fun K J t o => ∃ b109 c110, PP ((9, .ref 264 b109 c110 0 q76.length 17) :: K) ((264, ent b109 c110 17 (List.map eInt q76)) :: J) t o) ?_ ?_
 ·refine w_lpF [3, 7, 8] [24, 232, 256] (fun K J n82 t o => ∃ v77 v80 b78 c79 b81, gl_aj9 x11 x15 a0 n82 v77 v80 = some q76 ∧ PP ((9, .ref 264 b78 c79 0 v77.length 17) :: (10, .ptr 80 b81 17 0 0) :: K) ((264, ent b78 c79 17 (List.map eInt v77)) :: (80, ⟨b81, 1, 17, true, [[.v (.int .i64 v80)]]⟩) :: J) t o) ?_ ?_
  ·exact ⟨_, _, _, _, _, hq, pin, pinh⟩
  rintro n82 t o ⟨v77, v80, b78, c79, b81, h, pq⟩
  refine pn pq ?_
  cases n82 with
  | zero => rw [gl_aj9] at h; cases h
  | succ n82 =>
   rw [gl_aj9] at h
   try (refine gx ?_; intros; rename_i h)
   obtain ⟨q93, hq, h⟩ := bnd h
   refine w_cutK [3, 7, 8, 10] [24, 232, 256, 80] (fun K J t o => ∃ b105 c106, PP ((9, .ref 264 b105 c106 0 q93.length 17) :: K) ((264, ent b105 c106 17 (List.map eInt q93)) :: J) t o) ?_ ?_
   ·have h := hq
    exact cls
   rintro t o ⟨b105, c106, pq⟩
   refine pn pq ?_
   exact cls
 rintro t o ⟨b109, c110, pq⟩
 refine pnq pq ?_
 exact cls
theorem d_bc9 : OkC [] c_bc9 if_bc9 ks_bc9 := by
 refine ok fun G H ⟨a0, a1⟩ r h => ?_
 refine st1 fun bs t o => ?_
 dsimp only [gf_bc9] at h
 exact cls
theorem d_ej9 : OkC [c_bc9] c_ej9 if_ei9 ks_ei9 := by
 refine ok fun G H ⟨a0, a1⟩ r h => ?_
 have H_bc9 := H _ (.head _)
 replace H := hpre 0 H
 refine st1 fun bs t o => ?_
 dsimp only [gf_ej9] at h
 try (refine gx ?_; intros; rename_i h)
 obtain ⟨hf, h⟩ := gd h
 obtain ⟨q14, hq, h⟩ := bnd h
 refine w_lastK [] [] (fun K J t o => ∃ q14_, q14 = .inr q14_ ∧ PP K J t o) ?_ ?_
 ·have ho1 := h
  refine w_lpL (xs := a0) [0, 1, 7] [] 0 hf (fun K J l18 k16 t o => gl_ej9_1 a1 l18 k16  = some q14 ∧ PP ((8, .v (.int .i64 (k16 : Int))) :: K) J t o) ?_ ?_ ?_
  ·exact ⟨hq, pin, pinh⟩
  ·rintro k16 t o hlt ⟨h, pq⟩
   refine pn pq ?_
   rw [gl_ej9_1] at h
   exact cls
  rintro x17 l18 k16 t o hlt hx22 hw hd ⟨h, pq⟩
  refine pn pq ?_
  rw [gl_ej9_1] at h
  try (refine gx ?_; intros; rename_i h)
  obtain ⟨x25, h26, h⟩ := bnd h
  refine c_calld (c := c_bc9) (x17, a1) H_bc9 h26 fun ch => ?_
  exact cls
 rintro t o ⟨q14, rfl, pq⟩
 refine pnq pq ?_
 exact cls
theorem d_bb9 : OkC [c_ej9] c_bb9 if_bb9 ks_bb9 := by
 refine ok fun G H ⟨a0, a1⟩ r h => ?_
 refine st1 fun bs t o => ?_
 dsimp only [gf_bb9] at h
 exact cls
theorem d_bp9 : OkC [c_bb9, c_az9] c_bp9 if_bp9 ks_bp9 := by
 refine ok fun G H ⟨a0, a1⟩ r h => ?_
 refine st1 fun bs t o => ?_
 dsimp only [gf_bp9] at h
 exact cls
theorem d_as9 : OkC [c_bd9] c_as9 if_as9 ks_as9 := by
 refine ok fun G H ⟨a0, a1⟩ r h => ?_
 refine st1 fun bs t o => ?_
 dsimp only [gf_as9] at h
 refine gx fun x2 h3 => ?_; intros; rename_i h
 obtain ⟨q43, hq, h⟩ := bnd h
 refine w_lastK [] [] (fun K J t o => ∃ b67 c68, PP ((5, .ref 72 b67 c68 0 q43.length 194) :: K) ((72, ent b67 c68 194 (List.map ePair q43)) :: J) t o) ?_ ?_
 ·refine w_lpF [0, 1, 6] [] (fun K J n49 t o => ∃ v44 v45 v46 b47 c48, gl_as9_1 a0 a1 x2 n49 v44 v45 v46 = some q43 ∧ PP ((5, .ref 72 b47 c48 0 v46.length 194) :: (7, .v (.int .i64 v44)) :: (8, .v (.int .i64 v45)) :: K) ((72, ent b47 c48 194 (List.map ePair v46)) :: J) t o) ?_ ?_
  ·exact ⟨_, _, _, _, _, hq, pin, pinh⟩
  rintro n49 t o ⟨v44, v45, v46, b47, c48, h, pq⟩
  refine pn pq ?_
  cases n49 with
  | zero => rw [gl_as9_1] at h; cases h
  | succ n49 =>
   rw [gl_as9_1] at h
   exact cls
 rintro t o ⟨b67, c68, pq⟩
 refine pnq pq ?_
 exact cls
theorem d_bl9 : OkC [] c_bl9 if_bl9 ks_bl9 := by
 refine ok fun G H ⟨a0, a1⟩ r h => ?_
 refine st1 fun bs t o => ?_
 dsimp only [gf_bl9] at h
 try (refine gx ?_; intros; rename_i h)
 obtain ⟨hf, h⟩ := gd h
 obtain ⟨q11, hq, h⟩ := bnd h
 refine w_lastK [] [] (fun K J t o => ∃ q11_, q11 = .inr q11_ ∧ PP K J t o) ?_ ?_
 ·have ho1 := h
  refine w_lpL (xs := a0) [1, 7, 8] [] 0 hf (fun K J l15 k13 t o => gl_bl9_1 a1 l15 k13  = some q11 ∧ PP ((9, .v (.int .i64 (k13 : Int))) :: K) J t o) ?_ ?_ ?_
  ·exact ⟨hq, pin, pinh⟩
  ·rintro k13 t o hlt ⟨h, pq⟩
   refine pn pq ?_
   rw [gl_bl9_1] at h
   exact cls
  rintro x14 l15 k13 t o hlt hx19 hw hd ⟨h, pq⟩
  refine pn pq ?_
  rw [gl_bl9_1] at h
  exact cls
 rintro t o ⟨q11, rfl, pq⟩
 refine pnq pq ?_
 exact cls
theorem d_af9 : OkC [] c_af9 if_af9 ks_af9 := by
 refine ok fun G H ⟨a0, a1⟩ r h => ?_
 refine st1 fun bs t o => ?_
 dsimp only [gf_af9] at h
 exact cls
theorem d_en9 : OkC [c_af9] c_en9 if_em9 ks_em9 := by
 refine ok fun G H ⟨a0, a1⟩ r h => ?_
 have H_af9 := H _ (.head _)
 replace H := hpre 0 H
 refine st1 fun bs t o => ?_
 dsimp only [gf_en9] at h
 try (refine gx ?_; intros; rename_i h)
 obtain ⟨hf, h⟩ := gd h
 obtain ⟨q14, hq, h⟩ := bnd h
 refine w_lastK [] [] (fun K J t o => ∃ q14_, q14 = .inr q14_ ∧ PP K J t o) ?_ ?_
 ·have ho1 := h
  refine w_lpL (xs := a0) [0, 1, 7] [] 0 hf (fun K J l18 k16 t o => gl_en9_1 a1 l18 k16  = some q14 ∧ PP ((8, .v (.int .i64 (k16 : Int))) :: K) J t o) ?_ ?_ ?_
  ·exact ⟨hq, pin, pinh⟩
  ·rintro k16 t o hlt ⟨h, pq⟩
   refine pn pq ?_
   rw [gl_en9_1] at h
   exact cls
  rintro x17 l18 k16 t o hlt hx22 hw hd ⟨h, pq⟩
  refine pn pq ?_
  rw [gl_en9_1] at h
  try (refine gx ?_; intros; rename_i h)
  obtain ⟨x25, h26, h⟩ := bnd h
  refine c_calld (c := c_af9) (x17, a1) H_af9 h26 fun ch => ?_
  exact cls
 rintro t o ⟨q14, rfl, pq⟩
 refine pnq pq ?_
 exact cls
theorem d_ae9 : OkC [c_en9] c_ae9 if_ae9 ks_ae9 := by
 refine ok fun G H ⟨a0, a1⟩ r h => ?_
 refine st1 fun bs t o => ?_
 dsimp only [gf_ae9] at h
 exact cls
theorem d_ar9 : OkC [c_as9, c_bl9, c_ec9] c_ar9 if_ar9 ks_ar9 := by
 refine ok fun G H ⟨a0, a1, a2⟩ r h => ?_
 refine st1 fun bs t o => ?_
 dsimp only [gf_ar9] at h
 refine gx fun x4 h5 x8 h9 => ?_; intros; rename_i h
 obtain ⟨q641, hq, h⟩ := bnd h
 refine w_lastK [] [] (fun K J t o => ∃ q641_ b858 c859, q641 = .inr q641_ ∧ PP ((10, .ref 320 b858 c859 0 q641_.length 66) :: K) ((320, ent b858 c859 66 (List.map ePt q641_)) :: J) t o) ?_ ?_
 ·have ho1 := h
  refine w_lpF [0, 1, 2, 8, 9] [288, 312] (fun K J n649 t o => ∃ v642 v643 v644 v645 v646 b647 c648, gl_ar9_1 a0 x4 x8 a1 a2 n649 v642 v643 v644 v645 v646 = some q641 ∧ PP ((10, .ref 320 b647 c648 0 v646.length 66) :: (11, .v (.int .i64 v642)) :: (12, .v (.int .i64 v643)) :: (13, .v (.int .i64 v644)) :: (14, .v (.int .i64 v645)) :: K) ((320, ent b647 c648 66 (List.map ePt v646)) :: J) t o) ?_ ?_
  ·exact ⟨_, _, _, _, _, _, _, hq, pin, pinh⟩
  rintro n649 t o ⟨v642, v643, v644, v645, v646, b647, c648, h, pq⟩
  refine pn pq ?_
  cases n649 with
  | zero => rw [gl_ar9_1] at h; cases h
  | succ n649 =>
   rw [gl_ar9_1] at h
   try (refine gx ?_; intros; rename_i h)
   obtain ⟨q750, hq, h⟩ := bnd h
   refine w_cutK [0, 1, 2, 8, 9, 14] [288, 312] (fun K J t o => ∃ q750_ b855 c856, q750 = .inr q750_ ∧ PP ((10, .ref 320 b855 c856 0 q750_.2.2.2.length 66) :: (11, .v (.int .i64 q750_.1)) :: (12, .v (.int .i64 q750_.2.1)) :: (13, .v (.int .i64 q750_.2.2.1)) :: K) ((320, ent b855 c856 66 (List.map ePt q750_.2.2.2)) :: J) t o) ?_ ?_
   ·have ho2 := h
    have h := hq
    try (refine gx ?_; intros; rename_i h)
    refine cnd h rfl rfl (fun h c => ?_) fun h c => ?_
    ·try rw [c]
     refine gx fun x751 h752 x753 h754 x755 h756 x757 h758 x759 h760 => ?_; intros; rename_i h
     obtain ⟨q777, hq, h⟩ := bnd h
     refine w_cutK [0, 1, 2, 8, 9, 14, 15, 16, 64, 65] [288, 312] (fun K J t o => ∃ q777_ b795 c796, q777 = .inr q777_ ∧ PP ((10, .ref 320 b795 c796 0 q777_.length 66) :: K) ((320, ent b795 c796 66 (List.map ePt q777_)) :: J) t o) ?_ ?_
     ·have ho3 := h
      have h := hq
      exact cls
     rintro t o ⟨q777, b795, c796, rfl, pq⟩
     refine pn pq ?_
     exact cls
    try rw [c]
    refine gx fun x803 h804 x805 h806 x807 h808 => ?_; intros; rename_i h
    obtain ⟨q825, hq, h⟩ := bnd h
    refine w_cutK [0, 1, 2, 8, 9, 14, 15, 16] [288, 312] (fun K J t o => ∃ q825_ b843 c844, q825 = .inr q825_ ∧ PP ((10, .ref 320 b843 c844 0 q825_.length 66) :: K) ((320, ent b843 c844 66 (List.map ePt q825_)) :: J) t o) ?_ ?_
    ·have ho3 := h
     have h := hq
     exact cls
    rintro t o ⟨q825, b843, c844, rfl, pq⟩
    refine pn pq ?_
    exact cls
   rintro t o ⟨q750, b855, c856, rfl, pq⟩
   refine pn pq ?_
   exact cls
 rintro t o ⟨q641, b858, c859, rfl, pq⟩
 refine pnq pq ?_
 exact cls
theorem d_dw9 : OkC [c_ef9] c_dw9 if_dw9 ks_dw9 := by
 refine ok fun G H a0 r h => ?_
 refine st1 fun bs t o => ?_
 dsimp only [gf_dw9] at h
 try (refine gx ?_; intros; rename_i h)
 obtain ⟨hf, h⟩ := gd h
 obtain ⟨q9, hq, h⟩ := bnd h
 refine w_lastK [0] [] (fun K J t o => PP ((3, .v (.int .i64 q9)) :: K) J t o) ?_ ?_
 ·refine w_lpL (xs := a0) [0, 9, 10] [] 0 hf (fun K J l14 k12 t o => ∃ v10, gl_dw9_1 l14 k12 v10 = some q9 ∧ PP ((3, .v (.int .i64 v10)) :: (11, .v (.int .i64 (k12 : Int))) :: K) J t o) ?_ ?_ ?_
  ·exact ⟨_, hq, pin, pinh⟩
  ·rintro k12 t o hlt ⟨v10, h, pq⟩
   refine pn pq ?_
   rw [gl_dw9_1] at h
   exact cls
  rintro x13 l14 k12 t o hlt hx18 hw hd ⟨v10, h, pq⟩
  refine pn pq ?_
  rw [gl_dw9_1] at h
  exact cls
 rintro t o pq
 refine pnq pq ?_
 refine gx fun x22 h23 => ?_; intros; rename_i h
 obtain ⟨hf, h⟩ := gd h
 obtain ⟨q45, hq, h⟩ := bnd h
 refine w_lastK [] [] (fun K J t o => ∃ b63 c64, PP ((6, .ref 192 b63 c64 0 q45.length 82) :: K) ((192, ent b63 c64 82 (List.map eTag q45)) :: J) t o) ?_ ?_
 ·refine w_lpL (xs := a0) [25, 26] [] 0 hf (fun K J l52 k50 t o => ∃ v47 b48 c49, gl_dw9_2 l52 k50 v47 = some q45 ∧ PP ((6, .ref 192 b48 c49 0 v47.length 82) :: (27, .v (.int .i64 (k50 : Int))) :: K) ((192, ent b48 c49 82 (List.map eTag v47)) :: J) t o) ?_ ?_ ?_
  ·exact ⟨_, _, _, hq, pin, pinh⟩
  ·rintro k50 t o hlt ⟨v47, b48, c49, h, pq⟩
   refine pn pq ?_
   rw [gl_dw9_2] at h
   exact cls
  rintro x51 l52 k50 t o hlt hx56 hw hd ⟨v47, b48, c49, h, pq⟩
  refine pn pq ?_
  rw [gl_dw9_2] at h
  exact cls
 rintro t o ⟨b63, c64, pq⟩
 refine pnq pq ?_
 exact cls
theorem d_br9 : OkC [c_ae9] c_br9 if_br9 ks_br9 := by
 refine ok fun G H ⟨a0, a1⟩ r h => ?_
 refine st1 fun bs t o => ?_
 dsimp only [gf_br9] at h
 exact cls
theorem d_ab9 : OkC [] c_ab9 if_ab9 ks_ab9 := by
 refine ok fun G H ⟨a0, a1⟩ r h => ?_
 refine st1 fun bs t o => ?_
 dsimp only [gf_ab9] at h
 exact cls
theorem d_be9 : OkC [c_dv9, c_er9] c_be9 if_be9 ks_be9 := by
 refine ok fun G H a0 r h => ?_
 have H_er9 := H _ (.tail _ (.head _))
 replace H := hpre 1 H
 refine st1 fun bs t o => ?_
 dsimp only [gf_be9] at h
 try (refine gx ?_; intros; rename_i h)
 obtain ⟨hf, h⟩ := gd h
 obtain ⟨q153, hq, h⟩ := bnd h
 refine w_lastK [] [] (fun K J t o => ∃ b215 c216, PP ((3, .ref 64 b215 c216 0 q153.length 49) :: K) ((64, ent b215 c216 49 (List.map eStr q153)) :: J) t o) ?_ ?_
 ·refine w_lpL (xs := a0) [9, 10] [] 0 hf (fun K J l160 k158 t o => ∃ v155 b156 c157, gl_be9_4 l160 k158 v155 = some q153 ∧ PP ((3, .ref 64 b156 c157 0 v155.length 49) :: (11, .v (.int .i64 (k158 : Int))) :: K) ((64, ent b156 c157 49 (List.map eStr v155)) :: J) t o) ?_ ?_ ?_
  ·exact ⟨_, _, _, hq, pin, pinh⟩
  ·rintro k158 t o hlt ⟨v155, b156, c157, h, pq⟩
   refine pn pq ?_
   rw [gl_be9_4] at h
   exact cls
  rintro x159 l160 k158 t o hlt hx164 hw hd ⟨v155, b156, c157, h, pq⟩
  refine pn pq ?_
  rw [gl_be9_4] at h
  try (refine gx ?_; intros; rename_i h)
  obtain ⟨hf, h⟩ := gd h
  obtain ⟨q192, hq, h⟩ := bnd h
  refine w_lastK [9, 10, 11] [] (fun K J t o => ∃ b212 c213, PP ((3, .ref 64 b212 c213 0 q192.length 49) :: K) ((64, ent b212 c213 49 (List.map eStr q192)) :: J) t o) ?_ ?_
  ·refine w_lpL (xs := x159) [9, 10, 11, 15, 16] [] 0 hf (fun K J l199 k197 t o => ∃ v194 b195 c196, gl_be9_5 l199 k197 v194 = some q192 ∧ PP ((3, .ref 64 b195 c196 0 v194.length 49) :: (17, .v (.int .i64 (k197 : Int))) :: K) ((64, ent b195 c196 49 (List.map eStr v194)) :: J) t o) ?_ ?_ ?_
   ·exact ⟨_, _, _, hq, pin, pinh⟩
   ·rintro k197 t o hlt ⟨v194, b195, c196, h, pq⟩
    refine pn pq ?_
    rw [gl_be9_5] at h
    exact cls
   rintro x198 l199 k197 t o hlt hx203 hw hd ⟨v194, b195, c196, h, pq⟩
   refine pn pq ?_
   rw [gl_be9_5] at h
   exact cls
  rintro t o ⟨b212, c213, pq⟩
  refine pnq pq ?_
  exact cls
 rintro t o ⟨b215, c216, pq⟩
 refine pnq pq ?_
 try (refine gx ?_; intros; rename_i h)
 obtain ⟨x217, h218, h⟩ := bnd h
 have L218 := l_er9 h218; (try dsimp only at L218); refine c_callg (c := c_er9) (q153) H_er9 h218 fun ch => ?_; rw [← L218]
 exact cls
theorem d_bq9 : OkC [c_bp9] c_bq9 if_bq9 ks_bq9 := by
 refine ok fun G H ⟨a0, a1⟩ r h => ?_
 refine st1 fun bs t o => ?_
 dsimp only [gf_bq9] at h
 exact cls
theorem d_bo9 : OkC [c_ad9] c_bo9 if_bo9 ks_bo9 := by
 refine ok fun G H ⟨a0, a1⟩ r h => ?_
 refine st1 fun bs t o => ?_
 dsimp only [gf_bo9] at h
 exact cls
theorem d_bg9 : OkC [c_au9] c_bg9 if_bf9 ks_bf9 := by
 refine ok fun G H ⟨a0, a1, a2⟩ r h => ?_
 have H_au9 := H _ (.head _)
 replace H := hpre 0 H
 refine st1 fun bs t o => ?_
 dsimp only [gf_bg9] at h
 try (refine gx ?_; intros; rename_i h)
 obtain ⟨x5, h6, h⟩ := bnd h
 refine c_calld (c := c_au9) (a1, a0) H_au9 h6 fun ch => ?_
 try (refine gx ?_; intros; rename_i h)
 obtain ⟨x7, h8, h⟩ := bnd h
 refine c_calld (c := c_au9) (a2, a0) H_au9 h8 fun ch => ?_
 try (refine gx ?_; intros; rename_i h)
 obtain ⟨x9, h10, h⟩ := bnd h
 refine c_calld (c := c_au9) (a1, a2) H_au9 h10 fun ch => ?_
 exact cls
theorem d_bk9 : OkC [c_ab9] c_bk9 if_bj9 ks_bj9 := by
 refine ok fun G H ⟨a0, a1, a2⟩ r h => ?_
 have H_ab9 := H _ (.head _)
 replace H := hpre 0 H
 refine st1 fun bs t o => ?_
 dsimp only [gf_bk9] at h
 try (refine gx ?_; intros; rename_i h)
 obtain ⟨x5, h6, h⟩ := bnd h
 refine c_calld (c := c_ab9) (a1, a0) H_ab9 h6 fun ch => ?_
 try (refine gx ?_; intros; rename_i h)
 obtain ⟨x7, h8, h⟩ := bnd h
 refine c_calld (c := c_ab9) (a2, a0) H_ab9 h8 fun ch => ?_
 try (refine gx ?_; intros; rename_i h)
 obtain ⟨x9, h10, h⟩ := bnd h
 refine c_calld (c := c_ab9) (a1, a2) H_ab9 h10 fun ch => ?_
 exact cls
theorem d_aa9 : OkC [c_ac9, c_bg9, c_ar9, c_at9, c_ba9, c_dw9, c_dv9, c_br9, c_bk9, c_az9, c_er9] c_aa9 if_aa9 ks_aa9 := by
 refine ok fun G H ⟨a0, a1, a2⟩ r h => ?_
 have H_er9 := H _ (.tail _ (.tail _ (.tail _ (.tail _ (.tail _ (.tail _ (.tail _ (.tail _ (.tail _ (.tail _ (.head _)))))))))))
 replace H := hpre 10 H
 refine st1 fun bs t o => ?_
 dsimp only [gf_aa9] at h
 try (refine gx ?_; intros; rename_i h)
 obtain ⟨q6, hq, h⟩ := bnd h
 refine w_cutK [3, 4, 5, 6, 8] [24, 32, 40, 1000770, 1000771, 48, 200] (fun K J t o => PP ((52, .v (.bool q6)) :: K) J t o) ?_ ?_
 ·have h := hq
  exact cls
 rintro t o pq
 refine pn pq ?_
 try (refine gx ?_; intros; rename_i h)
 obtain ⟨q16, hq, h⟩ := bnd h
 refine w_cutK [3, 4, 5, 6, 8, 9] [24, 32, 40, 1000770, 1000771, 48, 200, 1001154, 1001155, 72] (fun K J t o => ∃ b23, PP ((10, .ptr 80 b23 226 0 0) :: (11, .v (.bool q16.1)) :: K) ((80, ⟨b23, 1, 226, true, [[.v (.int .i64 q16.2.1), .sl false 2 (List.map ePt q16.2.2)]]⟩) :: J) t o) ?_ ?_
 ·have h := hq
  exact cls
 rintro t o ⟨b23, pq⟩
 refine pn pq ?_
 try (refine gx ?_; intros; rename_i h)
 obtain ⟨q47, hq, h⟩ := bnd h
 refine w_cutK [3, 4, 5, 6, 9] [24, 32, 40, 1000770, 1000771, 48, 1001154, 1001155, 72] (fun K J t o => ∃ b72 c73 b76, PP ((8, .ref 200 b72 c73 0 q47.1.length 49) :: (10, .ptr 80 b76 226 0 0) :: K) ((200, ent b72 c73 49 (List.map eStr q47.1)) :: (80, ⟨b76, 1, 226, true, [[.v (.int .i64 q47.2.1), .sl false 2 (List.map ePt q47.2.2)]]⟩) :: J) t o) ?_ ?_
 ·have h := hq
  try (refine gx ?_; intros; rename_i h)
  obtain ⟨q55, hq, h⟩ := bnd h
  refine w_cutK [3, 4, 5, 6, 8, 9] [24, 32, 40, 1000770, 1000771, 48, 200, 1001154, 1001155, 72] (fun K J t o => ∃ b66, PP ((10, .ptr 80 b66 226 0 0) :: (12, .v (.bool q55.1)) :: K) ((80, ⟨b66, 1, 226, true, [[.v (.int .i64 q55.2.1), .sl false 2 (List.map ePt q55.2.2)]]⟩) :: J) t o) ?_ ?_
  ·have h := hq
   exact cls
  rintro t o ⟨b66, pq⟩
  refine pn pq ?_
  exact cls
 rintro t o ⟨b72, c73, b76, pq⟩
 refine pn pq ?_
 refine gx fun x77 h78 x83 h84 => ?_; intros; rename_i h
 obtain ⟨hf, h⟩ := gd h
 obtain ⟨q112, hq, h⟩ := bnd h
 refine w_lastK [3, 4, 5, 6, 8, 9] [24, 32, 40, 1000770, 1000771, 48, 200, 1001154, 1001155, 72] (fun K J t o => ∃ b132 c133, PP ((16, .ref 952 b132 c133 0 q112.length 49) :: K) ((952, ent b132 c133 49 (List.map eStr q112)) :: J) t o) ?_ ?_
 ·refine w_lpL (xs := x83) [3, 4, 5, 6, 8, 9, 127, 128] [24, 32, 40, 1000770, 1000771, 48, 200, 1001154, 1001155, 72, 1016] 0 hf (fun K J l119 k117 t o => ∃ v114 b115 c116, gl_ab9 l119 k117 v114 = some q112 ∧ PP ((16, .ref 952 b115 c116 0 v114.length 49) :: (129, .v (.int .i64 (k117 : Int))) :: K) ((952, ent b115 c116 49 (List.map eStr v114)) :: J) t o) ?_ ?_ ?_
  ·exact ⟨_, _, _, hq, pin, pinh⟩
  ·rintro k117 t o hlt ⟨v114, b115, c116, h, pq⟩
   refine pn pq ?_
   rw [gl_ab9] at h
   exact cls
  rintro x118 l119 k117 t o hlt hx123 hw hd ⟨v114, b115, c116, h, pq⟩
  refine pn pq ?_
  rw [gl_ab9] at h
  exact cls
 rintro t o ⟨b132, c133, pq⟩
 refine pnq pq ?_
 try (refine gx ?_; intros; rename_i h)
 obtain ⟨x134, h135, h⟩ := bnd h
 have L135 := l_er9 h135; (try dsimp only at L135); refine c_callg (c := c_er9) (q112) H_er9 h135 fun ch => ?_; rw [← L135]
 refine gx fun x136 h137 => ?_; intros; rename_i h
 obtain ⟨hf, h⟩ := gd h
 obtain ⟨q256, hq, h⟩ := bnd h
 refine w_lastK [4, 6] [32, 1000770, 1000771, 48] (fun K J t o => ∃ b309 c310 b79 c80 b312 c313 b314, PP ((8, .ref 200 b309 c310 0 q256.1.length 49) :: (9, .ptr 72 b314 100 0 0) :: K) ((200, ent b309 c310 49 (List.map eStr q256.1)) :: (1001154, ent b79 c80 66 (List.map ePt x77.pts)) :: (1001155, ent b312 c313 82 (List.map eTag q256.2)) :: (72, ⟨b314, 1, 100, true, [[.v (.string a1.id), .v (.int .i64 x77.kind), .al 1001154 b79 c80 0 x77.pts.length 66, .al 1001155 b312 c313 0 q256.2.length 82]]⟩) :: J) t o) ?_ ?_
 ·refine w_lpL (xs := x136) [3, 4, 5, 6, 142, 143] [24, 32, 40, 1000770, 1000771, 48, 1136] 0 hf (fun K J l267 k265 t o => ∃ v258 v261 b259 c260 b79 c80 b262 c263 b264, gl_aa9_2 a1 a2 a0 l267 k265 v258 v261 = some q256 ∧ PP ((8, .ref 200 b259 c260 0 v258.length 49) :: (9, .ptr 72 b264 100 0 0) :: (144, .v (.int .i64 (k265 : Int))) :: K) ((200, ent b259 c260 49 (List.map eStr v258)) :: (1001154, ent b79 c80 66 (List.map ePt x77.pts)) :: (1001155, ent b262 c263 82 (List.map eTag v261)) :: (72, ⟨b264, 1, 100, true, [[.v (.string a1.id), .v (.int .i64 x77.kind), .al 1001154 b79 c80 0 x77.pts.length 66, .al 1001155 b262 c263 0 v261.length 82]]⟩) :: J) t o) ?_ ?_ ?_
  ·exact ⟨_, _, _, _, _, _, _, _, _, hq, pin, pinh⟩
  ·rintro k265 t o hlt ⟨v258, v261, b259, c260, b79, c80, b262, c263, b264, h, pq⟩
   refine pn pq ?_
   rw [gl_aa9_2] at h
   exact cls
  rintro x266 l267 k265 t o hlt hx271 hw hd ⟨v258, v261, b259, c260, b79, c80, b262, c263, b264, h, pq⟩
  refine pn pq ?_
  rw [gl_aa9_2] at h
  refine gx fun x274 h275 x276 h277 x280 h281 x282 h283 => ?_; intros; rename_i h
  obtain ⟨q291, hq, h⟩ := bnd h
  refine w_cutK [3, 4, 5, 6, 9, 20, 142, 143, 144] [24, 32, 40, 1000770, 1000771, 48, 1001154, 1001155, 72, 1136] (fun K J t o => ∃ b299 c300 b303, PP ((8, .ref 200 b299 c300 0 q291.1.length 49) :: (23, .ptr 184 b303 306 0 0) :: K) ((200, ent b299 c300 49 (List.map eStr q291.1)) :: (184, ⟨b303, 1, 306, true, [[.v (.bool q291.2.1), .v (.string q291.2.2)]]⟩) :: J) t o) ?_ ?_
  ·have h := hq
   exact cls
  rintro t o ⟨b299, c300, b303, pq⟩
  refine pn pq ?_
  exact cls
 rintro t o ⟨b309, c310, b79, c80, b312, c313, b314, pq⟩
 refine pnq pq ?_
 exact cls
end Go.Proofs.AM
