/- Lemmas of the proof (RIF8), on an abstract machine. Conditions: none. -/
import Derived.Test.YtodmjmkakgamlaaGreatDoorRID
set_option linter.unusedVariables false
set_option linter.unusedSimpArgs false
set_option maxRecDepth 100000
set_option maxHeartbeats 4000000
namespace Go.Proofs.AM
attribute [local irreducible] vwp vstps vstpLs vstp vdo vret kseq kblk kloop kend kcut kloop2 frzV renV shutK pfzV trnV unrV
theorem d_at9 : OkC [c_et9] c_at9 if_at9 ks_at9 := by
 refine ok fun G H a0 r h => ?_
 refine st1 fun bs t o => ?_
 dsimp only [gf_at9] at h
 refine gx fun x2 h3 => ?_; intros; rename_i h
 obtain ⟨hf, h⟩ := gd h
 obtain ⟨q51, hq, h⟩ := bnd h
 refine w_lastK [] [] (fun K J t o => PP ((3, .v (.string q51)) :: K) J t o) ?_ ?_
 ·refine w_lpL (xs := a0.pts) [12, 13] [] 0 hf (fun K J l56 k54 t o => ∃ v52, gl_at9_1 l56 k54 v52 = some q51 ∧ PP ((3, .v (.string v52)) :: (14, .v (.int .i64 (k54 : Int))) :: K) J t o) ?_ ?_ ?_
  ·exact ⟨_, hq, pin, pinh⟩
  ·rintro k54 t o hlt ⟨v52, h, pq⟩
   refine pn pq ?_
   rw [gl_at9_1] at h
   exact cls
  rintro x55 l56 k54 t o hlt hx60 hw hd ⟨v52, h, pq⟩
  refine pn pq ?_
  rw [gl_at9_1] at h
  exact cls
 rintro t o pq
 refine pnq pq ?_
 exact cls
theorem d_ah9 : OkC [c_af9, c_at9] c_ah9 if_ah9 ks_ah9 := by
 refine ok fun G H a0 r h => ?_
 refine st1 fun bs t o => ?_
 dsimp only [gf_ah9] at h
 refine gx fun x2 h3 x4 h5 x6 h7 x8 h9 => ?_; intros; rename_i h
 obtain ⟨hf, h⟩ := gd h
 obtain ⟨q45, hq, h⟩ := bnd h
 refine w_lastK [] [] (fun K J t o => PP ((3, .v (.string q45)) :: K) J t o) ?_ ?_
 ·refine w_lpL (xs := a0.tags) [17, 18] [] 0 hf (fun K J l50 k48 t o => ∃ v46, gl_ah9_1 l50 k48 v46 = some q45 ∧ PP ((3, .v (.string v46)) :: (19, .v (.int .i64 (k48 : Int))) :: K) J t o) ?_ ?_ ?_
  ·exact ⟨_, hq, pin, pinh⟩
  ·rintro k48 t o hlt ⟨v46, h, pq⟩
   refine pn pq ?_
   rw [gl_ah9_1] at h
   exact cls
  rintro x49 l50 k48 t o hlt hx54 hw hd ⟨v46, h, pq⟩
  refine pn pq ?_
  rw [gl_ah9_1] at h
  exact cls
 rintro t o pq
 refine pnq pq ?_
 exact cls
theorem d_ae9 : OkC [c_ah9] c_ae9 if_ae9 ks_ae9 := by
 refine ok fun G H ⟨a0, a1⟩ r h => ?_
 refine st1 fun bs t o => ?_
 dsimp only [gf_ae9] at h
 exact cls
theorem d_ad9 : OkC [c_ac9, c_ae9] c_ad9 if_ad9 ks_ad9 := by
 refine ok fun G H a0 r h => ?_
 have H_ae9 := H _ (.tail _ (.head _))
 replace H := hpre 1 H
 refine st1 fun bs t o => ?_
 dsimp only [gf_ad9] at h
 refine gx fun x1 h2 => ?_; intros; rename_i h
 obtain ⟨hf, h⟩ := gd h
 obtain ⟨q62, hq, h⟩ := bnd h
 refine w_lastK [] [] (fun K J t o => PP ((4, .v (.string q62)) :: K) J t o) ?_ ?_
 ·refine w_lpL (xs := a0) [3, 10, 11] [] 0 hf (fun K J l67 k65 t o => ∃ v63, gl_ae9 l67 k65 v63 = some q62 ∧ PP ((4, .v (.string v63)) :: (12, .v (.int .i64 (k65 : Int))) :: K) J t o) ?_ ?_ ?_
  ·exact ⟨_, hq, pin, pinh⟩
  ·rintro k65 t o hlt ⟨v63, h, pq⟩
   refine pn pq ?_
   rw [gl_ae9] at h
   exact cls
  rintro x66 l67 k65 t o hlt hx71 hw hd ⟨v63, h, pq⟩
  refine pn pq ?_
  rw [gl_ae9] at h
  refine gx fun x75 h76 => ?_; intros; rename_i h
  obtain ⟨x77, h78, h⟩ := bnd h
  refine c_calld (c := c_ae9) (x66.had, x66.was) H_ae9 h78 fun ch => ?_
  refine gx fun x79 h80 x81 h82 => ?_; intros; rename_i h
  obtain ⟨x83, h84, h⟩ := bnd h
  refine c_calld (c := c_ae9) (x66.has, x66.now) H_ae9 h84 fun ch => ?_
  exact cls
 rintro t o pq
 refine pnq pq ?_
 exact cls
theorem d_aj9 : OkC [c_et9, c_ad9] c_aj9 if_aj9 ks_aj9 := by
 refine ok fun G H a0 r h => ?_
 refine st1 fun bs t o => ?_
 dsimp only [gf_aj9] at h
 try (refine gx ?_; intros; rename_i h)
 obtain ⟨hf, h⟩ := gd h
 obtain ⟨q189, hq, h⟩ := bnd h
 refine w_lastK [] [] (fun K J t o => PP ((3, .v (.string q189)) :: K) J t o) ?_ ?_
 ·refine w_lpL (xs := a0) [8, 9] [] 0 hf (fun K J l194 k192 t o => ∃ v190, gl_aj9_4 l194 k192 v190 = some q189 ∧ PP ((3, .v (.string v190)) :: (10, .v (.int .i64 (k192 : Int))) :: K) J t o) ?_ ?_ ?_
  ·exact ⟨_, hq, pin, pinh⟩
  ·rintro k192 t o hlt ⟨v190, h, pq⟩
   refine pn pq ?_
   rw [gl_aj9_4] at h
   exact cls
  rintro x193 l194 k192 t o hlt hx198 hw hd ⟨v190, h, pq⟩
  refine pn pq ?_
  rw [gl_aj9_4] at h
  refine gx fun x202 h203 x204 h205 => ?_; intros; rename_i h
  obtain ⟨hf, h⟩ := gd h
  obtain ⟨q232, hq, h⟩ := bnd h
  refine w_lastK [5, 8, 9, 10] [40] (fun K J t o => PP ((3, .v (.string q232)) :: K) J t o) ?_ ?_
  ·refine w_lpL (xs := x193.up) [5, 8, 9, 10, 20, 21] [40] 0 hf (fun K J l237 k235 t o => ∃ v233, gl_aj9_5 l237 k235 v233 = some q232 ∧ PP ((3, .v (.string v233)) :: (22, .v (.int .i64 (k235 : Int))) :: K) J t o) ?_ ?_ ?_
   ·exact ⟨_, hq, pin, pinh⟩
   ·rintro k235 t o hlt ⟨v233, h, pq⟩
    refine pn pq ?_
    rw [gl_aj9_5] at h
    exact cls
   rintro x236 l237 k235 t o hlt hx241 hw hd ⟨v233, h, pq⟩
   refine pn pq ?_
   rw [gl_aj9_5] at h
   exact cls
  rintro t o pq
  refine pnq pq ?_
  exact cls
 rintro t o pq
 refine pnq pq ?_
 exact cls
theorem d_es9 : OkC [] c_es9 if_es9 ks_es9 := by
 refine ok fun G H ⟨a0, a1⟩ r h => ?_
 refine st1 fun bs t o => ?_
 dsimp only [gf_es9] at h
 exact cls
theorem d_ea9 : OkC [c_dy9, c_ec9, c_cf9] c_ea9 if_ea9 ks_ea9 := by
 refine ok fun G H ⟨a0, a1⟩ r h => ?_
 have H_dy9 := H _ (.head _)
 have H_ec9 := H _ (.tail _ (.head _))
 have H_cf9 := H _ (.tail _ (.tail _ (.head _)))
 refine st1 fun bs t o => ?_
 dsimp only [gf_ea9] at h
 obtain ⟨x2, h3, h⟩ := bnd h
 refine go ?_;intros
 refine c_call (c := c_dy9) (a0, a1) H_dy9 h3 fun ch => ?_
 obtain ⟨hf109, h⟩ := gd h
 obtain ⟨q94, h137, h⟩ := bnd h
 refine go ?_;intros
 refine w_last (fun t o => ∃ b135 c136, Pin t (ovr [(5, .ref 96 b135 c136 0 q94.length 155)] t) ∧ PinH o (ovh [(96, ent b135 c136 155 (List.map (eChange true) q94))] o)) ?_ ?_
 ·refine w_loop2 (fun n t o => ∃ l103 k101 v96 b97 c98 b99 c100, gl_ea9_1 a0 a1 l103 k101 v96 = some q94 ∧ n = l103.length ∧ (x2).drop k101 = l103 ∧ Pin t (ovr [(0, .ro (List.map (eFeat false) a0)), (1, .ro (List.map (eFeat false) a1)), (5, .ref 96 b97 c98 0 v96.length 155), (6, .ref 120 b99 c100 0 x2.length 49), (7, .v (.int .i64 (k101 : Int)))] t) ∧ PinH o (ovh [(96, ent b97 c98 155 (List.map (eChange true) v96)), (120, ent b99 c100 49 (List.map eStr x2))] o)) _ ⟨_, _, _, _, _, _, _, h137, rfl, rfl, pin, pinh⟩ ?_
  rintro n t o ⟨l103, k101, v96, b97, c98, b99, c100, h137, rfl, hd104, pq1, pq2⟩
  refine pinned pq1 pq2 ?_
  cases l103 with
  | nil =>
   have hge106 := drop_ge hd104
   rw [gl_ea9_1] at h137
   refine go ?_;intros
   rw [hge106]
   refine go ?_;intros
   cases h137
   exact k_cn ⟨_, _, pin, pinh⟩
  | cons x102 l103 =>
   have hlt105 := drop_lt hd104
   have hx107 := drop_ix hd104
   have hw108 := drop_wr hd104 hf109
   rw [gl_ea9_1] at h137
   refine go ?_;intros
   rw [hlt105]
   refine go ?_;intros
   refine r_ire (xs := x2) rfl rfl hx107 rfl ?_
   refine go ?_;intros
   refine r_lde (f := eStr) (xs := x2) (x := x102) rfl rfl (idx_get hx107).2 rfl rfl rfl ?_
   obtain ⟨x110, h111, h137⟩ := bnd h137
   refine go ?_;intros
   refine c_call (c := c_ec9) (a0, x102) H_ec9 h111 fun ch => ?_
   refine go ?_;intros
   refine r_ire (xs := x2) rfl rfl hx107 rfl ?_
   refine go ?_;intros
   refine r_lde (f := eStr) (xs := x2) (x := x102) rfl rfl (idx_get hx107).2 rfl rfl rfl ?_
   obtain ⟨x117, h118, h137⟩ := bnd h137
   refine go ?_;intros
   refine c_call (c := c_ec9) (a1, x102) H_ec9 h118 fun ch => ?_
   refine go ?_;intros
   refine s_split rfl (fun c => ?_) (fun c => ?_)
   ·replace h137 := itt h137 c
    rw [c]
    refine go ?_;intros
    refine r_ire (xs := x2) rfl rfl hx107 rfl ?_
    refine go ?_;intros
    refine r_lde (f := eStr) (xs := x2) (x := x102) rfl rfl (idx_get hx107).2 rfl rfl rfl ?_
    refine go ?_;intros
    try simp only [take_map_len, take_ent]
    obtain ⟨h129, h137⟩ := gd h137
    refine go ?_;intros
    refine r_app (f := (eChange true)) (xs := v96) (ys := ([(⟨x102, x110.2, x110.1, x117.2, x117.1⟩ : Change)] : (List Change))) rfl (src_mv rfl rfl (by first | rfl | simp)) rfl rfl (by first | rfl | simp) h129 fun b127 c128 => ?_
    refine go ?_;intros
    rw [hw108]
    exact k_ln2 _ (Nat.lt_succ_self _) ⟨_, _, _, _, _, _, _, h137, rfl, drop_next hd104, pin, pinh⟩
   replace h137 := itf h137 c
   rw [c]
   obtain ⟨x124, h125, h137⟩ := bnd h137
   refine go ?_;intros
   refine c_call (c := c_cf9) (x110.1, x117.1) H_cf9 h125 fun ch => ?_
   refine go ?_;intros
   refine w_cond rfl (fun c => ?_) (fun c => ?_)
   ·replace h137 := itt h137 c
    try rw [c]
    refine go ?_;intros
    refine r_ire (xs := x2) rfl rfl hx107 rfl ?_
    refine go ?_;intros
    refine r_lde (f := eStr) (xs := x2) (x := x102) rfl rfl (idx_get hx107).2 rfl rfl rfl ?_
    refine go ?_;intros
    try simp only [take_map_len, take_ent]
    obtain ⟨h133, h137⟩ := gd h137
    refine go ?_;intros
    refine r_app (f := (eChange true)) (xs := v96) (ys := ([(⟨x102, x110.2, x110.1, x117.2, x117.1⟩ : Change)] : (List Change))) rfl (src_mv rfl rfl (by first | rfl | simp)) rfl rfl (by first | rfl | simp) h133 fun b131 c132 => ?_
    refine go ?_;intros
    rw [hw108]
    exact k_ln2 _ (Nat.lt_succ_self _) ⟨_, _, _, _, _, _, _, h137, rfl, drop_next hd104, pin, pinh⟩
   replace h137 := itf h137 c
   try rw [c]
   refine go ?_;intros
   rw [hw108]
   exact k_ln2 _ (Nat.lt_succ_self _) ⟨_, _, _, _, _, _, _, h137, rfl, drop_next hd104, pin, pinh⟩
 rintro t o ⟨b135, c136, pq1, pq2⟩
 refine pinnedQ pq1 pq2 ?_
 refine go ?_;intros
 cases h
 exact r_end
theorem d_dx9 : OkC [c_dh9] c_dx9 if_dx9 ks_dx9 := by
 refine ok fun G H a0 r h => ?_
 refine st1 fun bs t o => ?_
 dsimp only [gf_dx9] at h
 exact cls
theorem d_er9 : OkC [c_dx9] c_er9 if_er9 ks_er9 := by
 refine ok fun G H a0 r h => ?_
 refine st1 fun bs t o => ?_
 dsimp only [gf_er9] at h
 try (refine gx ?_; intros; rename_i h)
 obtain ⟨hf, h⟩ := gd h
 obtain ⟨q54, hq, h⟩ := bnd h
 refine w_lastK [] [] (fun K J t o => ∃ b83 c84, PP ((3, .ref 40 b83 c84 0 q54.length 155) :: K) ((40, ent b83 c84 155 (List.map (eChange true) q54)) :: J) t o) ?_ ?_
 ·refine w_lpL (xs := a0) [0] [] 0 hf (fun K J l61 k59 t o => ∃ v56 b57 c58, gl_er9_1 l61 k59 v56 = some q54 ∧ PP ((3, .ref 40 b57 c58 0 v56.length 155) :: (4, .v (.int .i64 (k59 : Int))) :: K) ((40, ent b57 c58 155 (List.map (eChange true) v56)) :: J) t o) ?_ ?_ ?_
  ·exact ⟨_, _, _, hq, pin, pinh⟩
  ·rintro k59 t o hlt ⟨v56, b57, c58, h, pq⟩
   refine pn pq ?_
   rw [gl_er9_1] at h
   exact cls
  rintro x60 l61 k59 t o hlt hx65 hw hd ⟨v56, b57, c58, h, pq⟩
  refine pn pq ?_
  rw [gl_er9_1] at h
  exact cls
 rintro t o ⟨b83, c84, pq⟩
 refine pnq pq ?_
 exact cls
theorem d_ch9 : OkC [c_cl9, c_es9, c_ea9, c_er9] c_ch9 if_ch9 ks_ch9 := by
 refine ok fun G H a0 r h => ?_
 refine st1 fun bs t o => ?_
 dsimp only [gf_ch9] at h
 try (refine gx ?_; intros; rename_i h)
 obtain ⟨hf, h⟩ := gd h
 obtain ⟨q76, hq, h⟩ := bnd h
 refine w_lastK [] [] (fun K J t o => ∃ b112 c113, PP ((3, .ref 48 b112 c113 0 q76.length 163) :: K) ((48, ent b112 c113 163 (List.map (eEntry true) q76)) :: J) t o) ?_ ?_
 ·refine w_lpL (xs := a0.commits) [1] [8] 0 hf (fun K J l83 k81 t o => ∃ v78 b79 c80, gl_ch9_1 a0 l83 k81 v78 = some q76 ∧ PP ((3, .ref 48 b79 c80 0 v78.length 163) :: (4, .v (.int .i64 (k81 : Int))) :: K) ((48, ent b79 c80 163 (List.map (eEntry true) v78)) :: J) t o) ?_ ?_ ?_
  ·exact ⟨_, _, _, hq, pin, pinh⟩
  ·rintro k81 t o hlt ⟨v78, b79, c80, h, pq⟩
   refine pn pq ?_
   rw [gl_ch9_1] at h
   exact cls
  rintro x82 l83 k81 t o hlt hx87 hw hd ⟨v78, b79, c80, h, pq⟩
  refine pn pq ?_
  rw [gl_ch9_1] at h
  exact cls
 rintro t o ⟨b112, c113, pq⟩
 refine pnq pq ?_
 exact cls
theorem d_ab9 : OkC [c_au9, c_bb9, c_bf9, c_aa9] c_ab9 if_ab9 ks_ab9 := by
 refine ok fun G H ⟨a0, a1⟩ r h => ?_
 refine st1 fun bs t o => ?_
 dsimp only [gf_ab9] at h
 refine gx fun x2 h3 x4 h5 x7 h8 => ?_; intros; rename_i h
 obtain ⟨hf, h⟩ := gd h
 obtain ⟨q111, hq, h⟩ := bnd h
 refine w_lastK [] [] (fun K J t o => ∃ b156 c157, PP ((5, .ref 72 b156 c157 0 q111.length 155) :: K) ((72, ent b156 c157 155 (List.map (eChange true) q111)) :: J) t o) ?_ ?_
 ·refine w_lpL (xs := x7) [0, 1, 22, 23] [176] 0 hf (fun K J l118 k116 t o => ∃ v113 b114 c115, gl_ab9_1 a0 a1 l118 k116 v113 = some q111 ∧ PP ((5, .ref 72 b114 c115 0 v113.length 155) :: (24, .v (.int .i64 (k116 : Int))) :: K) ((72, ent b114 c115 155 (List.map (eChange true) v113)) :: J) t o) ?_ ?_ ?_
  ·exact ⟨_, _, _, hq, pin, pinh⟩
  ·rintro k116 t o hlt ⟨v113, b114, c115, h, pq⟩
   refine pn pq ?_
   rw [gl_ab9_1] at h
   exact cls
  rintro x117 l118 k116 t o hlt hx122 hw hd ⟨v113, b114, c115, h, pq⟩
  refine pn pq ?_
  rw [gl_ab9_1] at h
  try (refine gx ?_; intros; rename_i h)
  obtain ⟨q126, hq, h⟩ := bnd h
  refine w_cutK [0, 1, 5, 7, 22, 23, 24] [72, 176] (fun K J t o => ∃ b134 c135 b137 c138 b142, PP ((8, .ptr 64 b142 155 0 0) :: K) ((1001028, ent b134 c135 66 (List.map ePt q126.1)) :: (1001029, ent b137 c138 82 (List.map eTag q126.2.1)) :: (1001033, ent none 0 66 (List.map ePt [])) :: (1001034, ent none 0 82 (List.map eTag [])) :: (64, ⟨b142, 1, 155, true, [[.v (.string x117), .v (.bool q126.2.2.1), .v (.string q126.2.2.2.1), .v (.int .i64 q126.2.2.2.2), .al 1001028 b134 c135 0 q126.1.length 66, .al 1001029 b137 c138 0 q126.2.1.length 82, .v (.bool false), .v (.string (⟨#[]⟩ : Str)), .v (.int .i64 0), .al 1001033 none 0 0 ([] : List Pt).length 66, .al 1001034 none 0 0 ([] : List Tag).length 82]]⟩) :: J) t o) ?_ ?_
  ·have h := hq
   exact cls
  rintro t o ⟨b134, c135, b137, c138, b142, pq⟩
  refine pn pq ?_
  exact cls
 rintro t o ⟨b156, c157, pq⟩
 refine pnq pq ?_
 exact cls
theorem d_ai9 : OkC [c_ak9, c_ab9] c_ai9 if_ai9 ks_ai9 := by
 refine ok fun G H a0 r h => ?_
 refine st1 fun bs t o => ?_
 dsimp only [gf_ai9] at h
 refine gx fun x3 h4 => ?_; intros; rename_i h
 obtain ⟨hf, h⟩ := gd h
 obtain ⟨q87, hq, h⟩ := bnd h
 refine w_lastK [] [] (fun K J t o => ∃ b126 c127, PP ((3, .ref 56 b126 c127 0 q87.length 163) :: K) ((56, ent b126 c127 163 (List.map (eEntry true) q87)) :: J) t o) ?_ ?_
 ·refine w_lpL (xs := a0.commits) [1, 13, 14] [8] 0 hf (fun K J l94 k92 t o => ∃ v89 b90 c91, gl_ai9_1 a0 l94 k92 v89 = some q87 ∧ PP ((3, .ref 56 b90 c91 0 v89.length 163) :: (15, .v (.int .i64 (k92 : Int))) :: K) ((56, ent b90 c91 163 (List.map (eEntry true) v89)) :: J) t o) ?_ ?_ ?_
  ·exact ⟨_, _, _, hq, pin, pinh⟩
  ·rintro k92 t o hlt ⟨v89, b90, c91, h, pq⟩
   refine pn pq ?_
   rw [gl_ai9_1] at h
   exact cls
  rintro x93 l94 k92 t o hlt hx98 hw hd ⟨v89, b90, c91, h, pq⟩
  refine pn pq ?_
  rw [gl_ai9_1] at h
  try (refine gx ?_; intros; rename_i h)
  obtain ⟨q107, hq, h⟩ := bnd h
  refine w_cutK [1, 3, 5, 13, 14, 15] [8, 56, 40] (fun K J t o => PP ((6, .ro (List.map (eFeat false) q107)) :: K) J t o) ?_ ?_
  ·have h := hq
   exact cls
  rintro t o pq
  refine pn pq ?_
  exact cls
 rintro t o ⟨b126, c127, pq⟩
 refine pnq pq ?_
 exact cls
theorem d_bi9 : OkC [c_cd9, c_ai9, c_aj9, c_ch9, c_ci9, c_cl9, c_al9] c_bi9 if_bi9 ks_bi9 := by
 refine ok fun G H ⟨a0, g0, g1⟩ r h => ?_
 refine st1 fun bs t o => ?_
 dsimp only [gf_bi9] at h
 try (refine gx ?_; intros; rename_i h)
 obtain ⟨q1, hq, h⟩ := bnd h
 refine w_cutK [] [] (fun K J t o => ∃ b16 b19, PP ((3, .ptr 24 b16 210 0 0) :: (4, .ptr 32 b19 210 0 0) :: K) ((24, ⟨b16, 1, 210, true, [[.sl false 3 (List.map (eCommit false) q1.1), .sl false 2 (List.map eHead q1.2.1)]]⟩) :: (32, ⟨b19, 1, 210, true, [[.sl false 3 (List.map (eCommit false) q1.2.2.1), .sl false 2 (List.map eHead q1.2.2.2)]]⟩) :: J) t o) ?_ ?_
 ·have h := hq
  exact cls
 rintro t o ⟨b16, b19, pq⟩
 refine pn pq ?_
 refine gx fun x20 h21 x24 h25 x26 h27 x30 h31 x32 h33 x34 h35 => ?_; intros; rename_i h
 obtain ⟨hf, h⟩ := gd h
 obtain ⟨q68, hq, h⟩ := bnd h
 refine w_lastK [3, 4, 5] [24, 32] (fun K J t o => PP ((6, .v (.bool q68)) :: K) J t o) ?_ ?_
 ·refine w_lpL (xs := q1.2.1) [3, 4, 5] [24, 32] 0 hf (fun K J l73 k71 t o => ∃ v69, gl_bi9_1 q1 l73 k71 v69 = some q68 ∧ PP ((6, .v (.bool v69)) :: (7, .v (.int .i64 (k71 : Int))) :: K) J t o) ?_ ?_ ?_
  ·exact ⟨_, hq, pin, pinh⟩
  ·rintro k71 t o hlt ⟨v69, h, pq⟩
   refine pn pq ?_
   rw [gl_bi9_1] at h
   exact cls
  rintro x72 l73 k71 t o hlt hx77 hw hd ⟨v69, h, pq⟩
  refine pn pq ?_
  rw [gl_bi9_1] at h
  exact cls
 rintro t o pq
 refine pnq pq ?_
 exact cls
end Go.Proofs.AM
