/- Lemmas of the proof (RBF8), on an abstract machine. Conditions: none. -/
import Derived.Test.YtodmjmkakgamlabGreatDoorRBD
set_option linter.unusedVariables false
set_option linter.unusedSimpArgs false
set_option maxRecDepth 100000
set_option maxHeartbeats 4000000
namespace Go.Proofs.AM
attribute [local irreducible] vwp vstps vstpLs vstp vdo vret kseq kblk kloop kend kcut kloop2 frzV renV shutK pfzV trnV unrV
theorem d_eu9 : OkC [] c_eu9 if_eu9 ks_eu9 := by
 refine ok fun G H ⟨a0, a1⟩ r h => ?_
 refine st1 fun bs t o => ?_
 dsimp only [gf_eu9] at h
 exact cls
theorem d_ec9 : OkC [c_ea9, c_ee9, c_ch9] c_ec9 if_ec9 ks_ec9 := by
 refine ok fun G H ⟨a0, a1⟩ r h => ?_
 have H_ea9 := H _ (.head _)
 have H_ee9 := H _ (.tail _ (.head _))
 have H_ch9 := H _ (.tail _ (.tail _ (.head _)))
 refine st1 fun bs t o => ?_
 dsimp only [gf_ec9] at h
 obtain ⟨x2, h3, h⟩ := bnd h
 refine go ?_;intros
 refine c_call (c := c_ea9) (a0, a1) H_ea9 h3 fun ch => ?_
 obtain ⟨hf109, h⟩ := gd h
 obtain ⟨q94, h137, h⟩ := bnd h
 refine go ?_;intros
 refine w_last (fun t o => ∃ b135 c136, Pin t (ovr [(5, .ref 96 b135 c136 0 q94.length 155)] t) ∧ PinH o (ovh [(96, ent b135 c136 155 (List.map (eChange true) q94))] o)) ?_ ?_
 ·refine w_loop2 (fun n t o => ∃ l103 k101 v96 b97 c98 b99 c100, gl_ec9_1 a0 a1 l103 k101 v96 = some q94 ∧ n = l103.length ∧ (x2).drop k101 = l103 ∧ Pin t (ovr [(0, .ro (List.map (eFeat false) a0)), (1, .ro (List.map (eFeat false) a1)), (5, .ref 96 b97 c98 0 v96.length 155), (6, .ref 120 b99 c100 0 x2.length 49), (7, .v (.int .i64 (k101 : Int)))] t) ∧ PinH o (ovh [(96, ent b97 c98 155 (List.map (eChange true) v96)), (120, ent b99 c100 49 (List.map eStr x2))] o)) _ ⟨_, _, _, _, _, _, _, h137, rfl, rfl, pin, pinh⟩ ?_
  rintro n t o ⟨l103, k101, v96, b97, c98, b99, c100, h137, rfl, hd104, pq1, pq2⟩
  refine pinned pq1 pq2 ?_
  cases l103 with
  | nil =>
   have hge106 := drop_ge hd104
   rw [gl_ec9_1] at h137
   refine go ?_;intros
   rw [hge106]
   refine go ?_;intros
   cases h137
   exact k_cn ⟨_, _, pin, pinh⟩
  | cons x102 l103 =>
   have hlt105 := drop_lt hd104
   have hx107 := drop_ix hd104
   have hw108 := drop_wr hd104 hf109
   rw [gl_ec9_1] at h137
   refine go ?_;intros
   rw [hlt105]
   refine go ?_;intros
   refine r_ire (xs := x2) rfl rfl hx107 rfl ?_
   refine go ?_;intros
   refine r_lde (f := eStr) (xs := x2) (x := x102) rfl rfl (idx_get hx107).2 rfl rfl rfl ?_
   obtain ⟨x110, h111, h137⟩ := bnd h137
   refine go ?_;intros
   refine c_call (c := c_ee9) (a0, x102) H_ee9 h111 fun ch => ?_
   refine go ?_;intros
   refine r_ire (xs := x2) rfl rfl hx107 rfl ?_
   refine go ?_;intros
   refine r_lde (f := eStr) (xs := x2) (x := x102) rfl rfl (idx_get hx107).2 rfl rfl rfl ?_
   obtain ⟨x117, h118, h137⟩ := bnd h137
   refine go ?_;intros
   refine c_call (c := c_ee9) (a1, x102) H_ee9 h118 fun ch => ?_
   refine go ?_;intros
   refine s_split rfl (fun c => ?_) (fun c => ?_)
   ·replace h137 := itt h137 c
    rw [c]
    refine go ?_;intros
    refine r_ire (xs := x2) rfl rfl hx107 rfl ?_
    refine go ?_;intros
    refine r_lde (f := eStr) (xs := x2) (x := x102) rfl rfl (idx_get hx107).2 rfl rfl rfl ?_
    refine go ?_;intros
    try simp only [take_map_len, take_ent]
    obtain ⟨h129, h137⟩ := gd h137
    refine go ?_;intros
    refine r_app (f := (eChange true)) (xs := v96) (ys := ([(⟨x102, x110.2, x110.1, x117.2, x117.1⟩ : Change)] : (List Change))) rfl (src_mv rfl rfl (by first | rfl | simp)) rfl rfl (by first | rfl | simp) h129 fun b127 c128 => ?_
    refine go ?_;intros
    rw [hw108]
    exact k_ln2 _ (Nat.lt_succ_self _) ⟨_, _, _, _, _, _, _, h137, rfl, drop_next hd104, pin, pinh⟩
   replace h137 := itf h137 c
   rw [c]
   obtain ⟨x124, h125, h137⟩ := bnd h137
   refine go ?_;intros
   refine c_call (c := c_ch9) (x110.1, x117.1) H_ch9 h125 fun ch => ?_
   refine go ?_;intros
   refine w_cond rfl (fun c => ?_) (fun c => ?_)
   ·replace h137 := itt h137 c
    try rw [c]
    refine go ?_;intros
    refine r_ire (xs := x2) rfl rfl hx107 rfl ?_
    refine go ?_;intros
    refine r_lde (f := eStr) (xs := x2) (x := x102) rfl rfl (idx_get hx107).2 rfl rfl rfl ?_
    refine go ?_;intros
    try simp only [take_map_len, take_ent]
    obtain ⟨h133, h137⟩ := gd h137
    refine go ?_;intros
    refine r_app (f := (eChange true)) (xs := v96) (ys := ([(⟨x102, x110.2, x110.1, x117.2, x117.1⟩ : Change)] : (List Change))) rfl (src_mv rfl rfl (by first | rfl | simp)) rfl rfl (by first | rfl | simp) h133 fun b131 c132 => ?_
    refine go ?_;intros
    rw [hw108]
    exact k_ln2 _ (Nat.lt_succ_self _) ⟨_, _, _, _, _, _, _, h137, rfl, drop_next hd104, pin, pinh⟩
   replace h137 := itf h137 c
   try rw [c]
   refine go ?_;intros
   rw [hw108]
   exact k_ln2 _ (Nat.lt_succ_self _) ⟨_, _, _, _, _, _, _, h137, rfl, drop_next hd104, pin, pinh⟩
 rintro t o ⟨b135, c136, pq1, pq2⟩
 refine pinnedQ pq1 pq2 ?_
 refine go ?_;intros
 cases h
 exact r_end
theorem d_dz9 : OkC [c_dj9] c_dz9 if_dz9 ks_dz9 := by
 refine ok fun G H a0 r h => ?_
 refine st1 fun bs t o => ?_
 dsimp only [gf_dz9] at h
 exact cls
theorem d_et9 : OkC [c_dz9] c_et9 if_et9 ks_et9 := by
 refine ok fun G H a0 r h => ?_
 refine st1 fun bs t o => ?_
 dsimp only [gf_et9] at h
 try (refine gx ?_; intros; rename_i h)
 obtain ⟨hf, h⟩ := gd h
 obtain ⟨q54, hq, h⟩ := bnd h
 refine w_lastK [] [] (fun K J t o => ∃ b83 c84, PP ((3, .ref 40 b83 c84 0 q54.length 155) :: K) ((40, ent b83 c84 155 (List.map (eChange true) q54)) :: J) t o) ?_ ?_
 ·refine w_lpL (xs := a0) [0] [] 0 hf (fun K J l61 k59 t o => ∃ v56 b57 c58, gl_et9_1 l61 k59 v56 = some q54 ∧ PP ((3, .ref 40 b57 c58 0 v56.length 155) :: (4, .v (.int .i64 (k59 : Int))) :: K) ((40, ent b57 c58 155 (List.map (eChange true) v56)) :: J) t o) ?_ ?_ ?_
  ·exact ⟨_, _, _, hq, pin, pinh⟩
  ·rintro k59 t o hlt ⟨v56, b57, c58, h, pq⟩
   refine pn pq ?_
   rw [gl_et9_1] at h
   exact cls
  rintro x60 l61 k59 t o hlt hx65 hw hd ⟨v56, b57, c58, h, pq⟩
  refine pn pq ?_
  rw [gl_et9_1] at h
  exact cls
 rintro t o ⟨b83, c84, pq⟩
 refine pnq pq ?_
 exact cls
theorem d_cj9 : OkC [c_cn9, c_eu9, c_ec9, c_et9] c_cj9 if_cj9 ks_cj9 := by
 refine ok fun G H a0 r h => ?_
 refine st1 fun bs t o => ?_
 dsimp only [gf_cj9] at h
 try (refine gx ?_; intros; rename_i h)
 obtain ⟨hf, h⟩ := gd h
 obtain ⟨q76, hq, h⟩ := bnd h
 refine w_lastK [] [] (fun K J t o => ∃ b112 c113, PP ((3, .ref 48 b112 c113 0 q76.length 163) :: K) ((48, ent b112 c113 163 (List.map (eEntry true) q76)) :: J) t o) ?_ ?_
 ·refine w_lpL (xs := a0.commits) [1] [8] 0 hf (fun K J l83 k81 t o => ∃ v78 b79 c80, gl_cj9_1 a0 l83 k81 v78 = some q76 ∧ PP ((3, .ref 48 b79 c80 0 v78.length 163) :: (4, .v (.int .i64 (k81 : Int))) :: K) ((48, ent b79 c80 163 (List.map (eEntry true) v78)) :: J) t o) ?_ ?_ ?_
  ·exact ⟨_, _, _, hq, pin, pinh⟩
  ·rintro k81 t o hlt ⟨v78, b79, c80, h, pq⟩
   refine pn pq ?_
   rw [gl_cj9_1] at h
   exact cls
  rintro x82 l83 k81 t o hlt hx87 hw hd ⟨v78, b79, c80, h, pq⟩
  refine pn pq ?_
  rw [gl_cj9_1] at h
  exact cls
 rintro t o ⟨b112, c113, pq⟩
 refine pnq pq ?_
 exact cls
theorem d_bn9 : OkC [] c_bn9 if_bn9 ks_bn9 := by
 refine ok fun G H ⟨a0, a1, a2⟩ r h => ?_
 refine st1 fun bs t o => ?_
 dsimp only [gf_bn9] at h
 obtain ⟨q, hs, h⟩ := bnd h
 obtain ⟨s0, s1, s2⟩ := slc_le hs
 refine go ?_;intros
 refine r_sl3 rfl rfl rfl rfl rfl hs rfl ?_
 refine go ?_;intros
 refine w_cond rfl (fun c => ?_) (fun c => ?_)
 ·replace h := itt h c
  try rw [c]
  refine go ?_;intros
  cases h
  exact r_endg
 replace h := itf h c
 try rw [c]
 refine go ?_;intros
 refine r_slv0 (j := a1) rfl rfl rfl rfl s0 (by omega) ?_
 refine go ?_;intros
 refine r_slv1 (j := a2) rfl rfl rfl rfl (by omega) s2 ?_
 refine go ?_;intros
 refine r_ain (f := (eFeat false)) (xs := a0) (ys := a0.drop a2.toNat) (i := a1.toNat) (j := a2.toNat) (m := a0.length - a2.toNat) rfl rfl rfl (del_ys a0) (by omega) (by omega) (fun _ => rfl) ?_
 refine go ?_;intros
 refine r_slx2 (i := ((a1.toNat + (a0.length - a2.toNat) : Nat) : Int)) (j := (a0.length : Int)) (rows := List.map (eFeat false) (a0.take a1.toNat ++ a0.drop a2.toNat ++ a0.drop (a1.toNat + (a0.length - a2.toNat)))) rfl rfl rfl rfl rfl (by omega) (by omega) (by simp; omega) ?_
 refine go ?_;intros
 refine r_clr (f := (eFeat false)) (xs := a0.take a1.toNat ++ a0.drop a2.toNat ++ a0.drop (a1.toNat + (a0.length - a2.toNat))) (z0 := (⟨⟨#[]⟩, ⟨0, []⟩, []⟩ : Feat)) rfl rfl rfl (by simp; omega) (fun _ => rfl) ?_
 refine go ?_;intros
 refine r_trn ?_
 refine go ?_;intros
 refine r_trv (f := (eFeat false)) (ys := a0.take a1.toNat ++ a0.drop a2.toNat) (xs := del_xs a0 a1 a2 (⟨⟨#[]⟩, ⟨0, []⟩, []⟩ : Feat)) rfl rfl (del_eq s0 s1 s2) (del_le s0 s1 s2) ?_
 refine go ?_;intros
 cases h
 rw [del_len s0 s1 s2]
 exact r_endg
theorem d_ac9 : OkC [] c_ac9 if_ac9 ks_ac9 := by
 refine ok fun G H ⟨a0, a1⟩ r h => ?_
 refine st1 fun bs t o => ?_
 dsimp only [gf_ac9] at h
 exact cls

theorem d_ab9 : OkC [c_av9, c_ae9, c_ba9, c_bh9, c_ai9, c_bb9, c_bn9, c_ay9, c_cb9] c_ab9 if_ab9 ks_ab9 := by
 refine ok fun G H ⟨a0, a1⟩ r h => ?_
 have H_cb9 := H _ (.tail _ (.tail _ (.tail _ (.tail _ (.tail _ (.tail _ (.tail _ (.tail _ (.head _)))))))))
 replace H := hpre 8 H
 refine st1 fun bs t o => ?_
 dsimp only [gf_ab9] at h
 refine gx fun x1 h2 x3 h4 x7 h8 => ?_; intros; rename_i h
 obtain ⟨hf, h⟩ := gd h
 obtain ⟨q168, hq, h⟩ := bnd h
 refine w_lastK [] [] (fun K J t o => ∃ q168_ b232 c233, q168 = .inr q168_ ∧ PP ((6, .ref 2000006 b232 c233 0 q168_.length 100) :: K) ((2000006, ent b232 c233 100 (List.map (eFeat false) q168_)) :: J) t o) ?_ ?_
 ·have ho1 := h
  refine w_lpL (xs := a1) [0, 23, 24] [] 0 hf (fun K J l175 k173 t o => ∃ v170 b171 c172, gl_ac9 a0 l175 k173 v170 = some q168 ∧ PP ((6, .ref 2000006 b171 c172 0 v170.length 100) :: (25, .v (.int .i64 (k173 : Int))) :: K) ((2000006, ent b171 c172 100 (List.map (eFeat false) v170)) :: J) t o) ?_ ?_ ?_
  ·exact ⟨_, _, _, hq, pin, pinh⟩
  ·rintro k173 t o hlt ⟨v170, b171, c172, h, pq⟩
   refine pn pq ?_
   rw [gl_ac9] at h
   exact cls
  rintro x174 l175 k173 t o hlt hx179 hw hd ⟨v170, b171, c172, h, pq⟩
  refine pn pq ?_
  rw [gl_ac9] at h
  try (refine gx ?_; intros; rename_i h)
  obtain ⟨q183, hq, h⟩ := bnd h
  refine w_cutK [0, 6, 8, 23, 24, 25] [2000006, 64] (fun K J t o => ∃ b193 c194 b196 c197 b200, PP ((9, .ptr 72 b200 100 0 0) :: (10, .v (.bool q183.1)) :: K) ((1001154, ent b193 c194 66 (List.map ePt q183.2.1)) :: (1001155, ent b196 c197 82 (List.map eTag q183.2.2.1)) :: (72, ⟨b200, 1, 100, true, [[.v (.string q183.2.2.2.1), .v (.int .i64 q183.2.2.2.2), .al 1001154 b193 c194 0 q183.2.1.length 66, .al 1001155 b196 c197 0 q183.2.2.1.length 82]]⟩) :: J) t o) ?_ ?_
  ·have h := hq
   exact cls
  rintro t o ⟨b193, c194, b196, c197, b200, pq⟩
  refine pn pq ?_
  exact cls
 rintro t o ⟨q168, b232, c233, rfl, pq⟩
 refine pnq pq ?_
 try (refine gx ?_; intros; rename_i h)
 obtain ⟨x234, h235, h⟩ := bnd h
 have L235 := l_cb9 h235; (try dsimp only at L235); (first | replace L235 := And.intro L235.1.symm L235.2.symm | replace L235 := L235.symm); (try obtain ⟨L235, M235⟩ := L235); refine c_callg (c := c_cb9) (q168) H_cb9 h235 fun ch => ?_
 exact cls
theorem d_ad9 : OkC [c_av9, c_bd9, c_bh9, c_aa9] c_ad9 if_ad9 ks_ad9 := by
 refine ok fun G H ⟨a0, a1⟩ r h => ?_
 refine st1 fun bs t o => ?_
 dsimp only [gf_ad9] at h
 refine gx fun x2 h3 x4 h5 x7 h8 => ?_; intros; rename_i h
 obtain ⟨hf, h⟩ := gd h
 obtain ⟨q111, hq, h⟩ := bnd h
 refine w_lastK [] [] (fun K J t o => ∃ b156 c157, PP ((5, .ref 72 b156 c157 0 q111.length 155) :: K) ((72, ent b156 c157 155 (List.map (eChange true) q111)) :: J) t o) ?_ ?_
 ·refine w_lpL (xs := x7) [0, 1, 22, 23] [176] 0 hf (fun K J l118 k116 t o => ∃ v113 b114 c115, gl_ad9_1 a0 a1 l118 k116 v113 = some q111 ∧ PP ((5, .ref 72 b114 c115 0 v113.length 155) :: (24, .v (.int .i64 (k116 : Int))) :: K) ((72, ent b114 c115 155 (List.map (eChange true) v113)) :: J) t o) ?_ ?_ ?_
  ·exact ⟨_, _, _, hq, pin, pinh⟩
  ·rintro k116 t o hlt ⟨v113, b114, c115, h, pq⟩
   refine pn pq ?_
   rw [gl_ad9_1] at h
   exact cls
  rintro x117 l118 k116 t o hlt hx122 hw hd ⟨v113, b114, c115, h, pq⟩
  refine pn pq ?_
  rw [gl_ad9_1] at h
  try (refine gx ?_; intros; rename_i h)
  obtain ⟨q126, hq, h⟩ := bnd h
  refine w_cutK [0, 1, 5, 7, 22, 23, 24] [72, 176] (fun K J t o => ∃ b134 c135 b137 c138 b142, PP ((8, .ptr 64 b142 155 0 0) :: K) ((1001028, ent b134 c135 66 (List.map ePt q126.1)) :: (1001029, ent b137 c138 82 (List.map eTag q126.2.1)) :: (1001033, ent none 0 66 (List.map ePt [])) :: (1001034, ent none 0 82 (List.map eTag [])) :: (64, ⟨b142, 1, 155, true, [[.v (.string x117), .v (.bool q126.2.2.1), .v (.string q126.2.2.2.1), .v (.int .i64 q126.2.2.2.2), .al 1001028 b134 c135 0 q126.1.length 66, .al 1001029 b137 c138 0 q126.2.1.length 82, .v (.bool false), .v (.string (⟨#[]⟩ : Str)), .v (.int .i64 0), .al 1001033 none 0 0 ([] : List Pt).length 66, .al 1001034 none 0 0 ([] : List Tag).length 82]]⟩) :: J) t o) ?_ ?_
  ·have h := hq
   exact cls
  rintro t o ⟨b134, c135, b137, c138, b142, pq⟩
  refine pn pq ?_
  exact cls
 rintro t o ⟨b156, c157, pq⟩
 refine pnq pq ?_
 exact cls
theorem d_ak9 : OkC [c_am9, c_ad9] c_ak9 if_ak9 ks_ak9 := by
 refine ok fun G H a0 r h => ?_
 refine st1 fun bs t o => ?_
 dsimp only [gf_ak9] at h
 refine gx fun x3 h4 => ?_; intros; rename_i h
 obtain ⟨hf, h⟩ := gd h
 obtain ⟨q87, hq, h⟩ := bnd h
 refine w_lastK [] [] (fun K J t o => ∃ b126 c127, PP ((3, .ref 56 b126 c127 0 q87.length 163) :: K) ((56, ent b126 c127 163 (List.map (eEntry true) q87)) :: J) t o) ?_ ?_
 ·refine w_lpL (xs := a0.commits) [1, 13, 14] [8] 0 hf (fun K J l94 k92 t o => ∃ v89 b90 c91, gl_ak9_1 a0 l94 k92 v89 = some q87 ∧ PP ((3, .ref 56 b90 c91 0 v89.length 163) :: (15, .v (.int .i64 (k92 : Int))) :: K) ((56, ent b90 c91 163 (List.map (eEntry true) v89)) :: J) t o) ?_ ?_ ?_
  ·exact ⟨_, _, _, hq, pin, pinh⟩
  ·rintro k92 t o hlt ⟨v89, b90, c91, h, pq⟩
   refine pn pq ?_
   rw [gl_ak9_1] at h
   exact cls
  rintro x93 l94 k92 t o hlt hx98 hw hd ⟨v89, b90, c91, h, pq⟩
  refine pn pq ?_
  rw [gl_ak9_1] at h
  try (refine gx ?_; intros; rename_i h)
  obtain ⟨q107, hq, h⟩ := bnd h
  refine w_cutK [1, 3, 5, 13, 14, 15] [8, 56, 40] (fun K J t o => PP ((6, .ro (List.map (eFeat false) q107)) :: K) J t o) ?_ ?_
  ·have h := hq
   exact cls
  rintro t o pq
  refine pn pq ?_
  exact cls
 rintro t o ⟨b126, c127, pq⟩
 refine pnq pq ?_
 exact cls
theorem d_cf9 : OkC [c_cv9, c_eh9] c_cf9 if_cf9 ks_cf9 := by
 refine ok fun G H ⟨a0, g0, g1⟩ r h => ?_
 refine st1 fun bs t o => ?_
 dsimp only [gf_cf9] at h
 exact cls
theorem d_bk9 : OkC [c_cf9, c_ak9, c_al9, c_cj9, c_ck9, c_ab9, c_aw9] c_bk9 if_bk9 ks_bk9 := by
 refine ok fun G H ⟨a0, g0, g1⟩ r h => ?_
 refine st1 fun bs t o => ?_
 dsimp only [gf_bk9] at h
 refine gx fun x1 h2 x8 h9 x12 h13 x14 h15 x18 h19 x20 h21 => ?_; intros; rename_i h
 obtain ⟨hf, h⟩ := gd h
 obtain ⟨q136, hq, h⟩ := bnd h
 refine w_lastK [] [] (fun K J t o => ∃ q136_, q136 = .inr q136_ ∧ PP K J t o) ?_ ?_
 ·have ho1 := h
  refine w_lpL (xs := x8) [3, 4] [24, 120] 0 hf (fun K J l140 k138 t o => gl_bk9_1 x1 l140 k138  = some q136 ∧ PP ((5, .v (.int .i64 (k138 : Int))) :: K) J t o) ?_ ?_ ?_
  ·exact ⟨hq, pin, pinh⟩
  ·rintro k138 t o hlt ⟨h, pq⟩
   refine pn pq ?_
   rw [gl_bk9_1] at h
   exact cls
  rintro x139 l140 k138 t o hlt hx144 hw hd ⟨h, pq⟩
  refine pn pq ?_
  rw [gl_bk9_1] at h
  try (refine gx ?_; intros; rename_i h)
  obtain ⟨q156, hq, h⟩ := bnd h
  refine w_cutK [3, 4, 5] [24, 120] (fun K J t o => PP ((6, .ro (List.map (eFeat false) q156)) :: K) J t o) ?_ ?_
  ·have h := hq
   try (refine gx ?_; intros; rename_i h)
   refine r_lopg (f := (eEntry true)) (g := eInt) (xs := x8) (x := x139) (ys := x139.up) (idx_get hx144).2 rfl rfl rfl fun b157 c158 => ?_
   try (refine gx ?_; intros; rename_i h)
   refine c_shg0 (f := (eEntry true)) (idx_get hx144).2 ?_
   try (refine gx ?_; intros; rename_i h)
   refine r_lopg (f := (eEntry true)) (g := eInt) (xs := x8) (x := x139) (ys := x139.up) (idx_get hx144).2 rfl rfl rfl fun b159 c160 => ?_
   refine gx fun x161 h162 => ?_; intros; rename_i h
   refine c_shg0 (f := (eEntry true)) (idx_get hx144).2 ?_
   exact cls
  rintro t o pq
  refine pn pq ?_
  try (refine gx ?_; intros; rename_i h)
  refine r_lopg (f := (eEntry true)) (g := (eChange true)) (xs := x8) (x := x139) (ys := x139.diff) (idx_get hx144).2 rfl rfl rfl fun b166 c167 => ?_
  refine gx fun x168 h169 => ?_; intros; rename_i h
  refine c_shg0 (f := (eEntry true)) (idx_get hx144).2 ?_
  refine gx fun x172 h173 x174 h175 => ?_; intros; rename_i h
  refine r_lopg (f := (eEntry true)) (g := eInt) (xs := x8) (x := x139) (ys := x139.up) (idx_get hx144).2 rfl rfl rfl fun b176 c177 => ?_
  try (refine gx ?_; intros; rename_i h)
  refine c_shg0 (f := (eEntry true)) (idx_get hx144).2 ?_
  exact cls
 rintro t o ⟨q136, rfl, pq⟩
 refine pnq pq ?_
 exact cls
end Go.Proofs.AM
