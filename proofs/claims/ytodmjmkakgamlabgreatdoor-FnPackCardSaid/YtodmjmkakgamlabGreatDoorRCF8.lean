/- Lemmas of the proof (RCF8), on an abstract machine. Conditions: none. -/
import Derived.Test.YtodmjmkakgamlabGreatDoorRCD
set_option linter.unusedVariables false
set_option linter.unusedSimpArgs false
set_option maxRecDepth 100000
set_option maxHeartbeats 4000000
namespace Go.Proofs.AM
attribute [local irreducible] vwp vstps vstpLs vstp vdo vret kseq kblk kloop kend kcut kloop2 frzV renV shutK pfzV trnV unrV
theorem d_aj9 : OkC [c_ah9, c_ax9] c_aj9 if_aj9 ks_aj9 := by
 refine ok fun G H a0 r h => ?_
 refine st1 fun bs t o => ?_
 dsimp only [gf_aj9] at h
 refine gx fun x2 h3 x4 h5 x6 h7 x8 h9 => ?_; intros; rename_i h
 obtain ⟨hf, h⟩ := gd h
 obtain ⟨q45, hq, h⟩ := bnd h
 refine w_lastK [] [] (fun K J t o => PP ((3, .v (.string q45)) :: K) J t o) ?_ ?_
 ·refine w_lpL (xs := a0.tags) [17, 18] [] 0 hf (fun K J l50 k48 t o => ∃ v46, gl_aj9_1 l50 k48 v46 = some q45 ∧ PP ((3, .v (.string v46)) :: (19, .v (.int .i64 (k48 : Int))) :: K) J t o) ?_ ?_ ?_
  ·exact ⟨_, hq, pin, pinh⟩
  ·rintro k48 t o hlt ⟨v46, h, pq⟩
   refine pn pq ?_
   rw [gl_aj9_1] at h
   exact cls
  rintro x49 l50 k48 t o hlt hx54 hw hd ⟨v46, h, pq⟩
  refine pn pq ?_
  rw [gl_aj9_1] at h
  exact cls
 rintro t o pq
 refine pnq pq ?_
 exact cls
theorem d_ag9 : OkC [c_aj9] c_ag9 if_ag9 ks_ag9 := by
 refine ok fun G H ⟨a0, a1⟩ r h => ?_
 refine st1 fun bs t o => ?_
 dsimp only [gf_ag9] at h
 exact cls
theorem d_af9 : OkC [c_ae9, c_ag9] c_af9 if_af9 ks_af9 := by
 refine ok fun G H a0 r h => ?_
 have H_ag9 := H _ (.tail _ (.head _))
 replace H := hpre 1 H
 refine st1 fun bs t o => ?_
 dsimp only [gf_af9] at h
 refine gx fun x1 h2 => ?_; intros; rename_i h
 obtain ⟨hf, h⟩ := gd h
 obtain ⟨q62, hq, h⟩ := bnd h
 refine w_lastK [] [] (fun K J t o => PP ((4, .v (.string q62)) :: K) J t o) ?_ ?_
 ·refine w_lpL (xs := a0) [3, 10, 11] [] 0 hf (fun K J l67 k65 t o => ∃ v63, gl_ag9 l67 k65 v63 = some q62 ∧ PP ((4, .v (.string v63)) :: (12, .v (.int .i64 (k65 : Int))) :: K) J t o) ?_ ?_ ?_
  ·exact ⟨_, hq, pin, pinh⟩
  ·rintro k65 t o hlt ⟨v63, h, pq⟩
   refine pn pq ?_
   rw [gl_ag9] at h
   exact cls
  rintro x66 l67 k65 t o hlt hx71 hw hd ⟨v63, h, pq⟩
  refine pn pq ?_
  rw [gl_ag9] at h
  refine gx fun x75 h76 => ?_; intros; rename_i h
  obtain ⟨x77, h78, h⟩ := bnd h
  refine c_calld (c := c_ag9) (x66.had, x66.was) H_ag9 h78 fun ch => ?_
  refine gx fun x79 h80 x81 h82 => ?_; intros; rename_i h
  obtain ⟨x83, h84, h⟩ := bnd h
  refine c_calld (c := c_ag9) (x66.has, x66.now) H_ag9 h84 fun ch => ?_
  exact cls
 rintro t o pq
 refine pnq pq ?_
 exact cls
theorem d_an9 : OkC [c_fd9, c_af9] c_an9 if_an9 ks_an9 := by
 refine ok fun G H a0 r h => ?_
 refine st1 fun bs t o => ?_
 dsimp only [gf_an9] at h
 try (refine gx ?_; intros; rename_i h)
 obtain ⟨hf, h⟩ := gd h
 obtain ⟨q189, hq, h⟩ := bnd h
 refine w_lastK [] [] (fun K J t o => PP ((3, .v (.string q189)) :: K) J t o) ?_ ?_
 ·refine w_lpL (xs := a0) [8, 9] [] 0 hf (fun K J l194 k192 t o => ∃ v190, gl_an9_4 l194 k192 v190 = some q189 ∧ PP ((3, .v (.string v190)) :: (10, .v (.int .i64 (k192 : Int))) :: K) J t o) ?_ ?_ ?_
  ·exact ⟨_, hq, pin, pinh⟩
  ·rintro k192 t o hlt ⟨v190, h, pq⟩
   refine pn pq ?_
   rw [gl_an9_4] at h
   exact cls
  rintro x193 l194 k192 t o hlt hx198 hw hd ⟨v190, h, pq⟩
  refine pn pq ?_
  rw [gl_an9_4] at h
  refine gx fun x202 h203 x204 h205 => ?_; intros; rename_i h
  obtain ⟨hf, h⟩ := gd h
  obtain ⟨q232, hq, h⟩ := bnd h
  refine w_lastK [5, 8, 9, 10] [40] (fun K J t o => PP ((3, .v (.string q232)) :: K) J t o) ?_ ?_
  ·refine w_lpL (xs := x193.up) [5, 8, 9, 10, 20, 21] [40] 0 hf (fun K J l237 k235 t o => ∃ v233, gl_an9_5 l237 k235 v233 = some q232 ∧ PP ((3, .v (.string v233)) :: (22, .v (.int .i64 (k235 : Int))) :: K) J t o) ?_ ?_ ?_
   ·exact ⟨_, hq, pin, pinh⟩
   ·rintro k235 t o hlt ⟨v233, h, pq⟩
    refine pn pq ?_
    rw [gl_an9_5] at h
    exact cls
   rintro x236 l237 k235 t o hlt hx241 hw hd ⟨v233, h, pq⟩
   refine pn pq ?_
   rw [gl_an9_5] at h
   exact cls
  rintro t o pq
  refine pnq pq ?_
  exact cls
 rintro t o pq
 refine pnq pq ?_
 exact cls
theorem d_fc9 : OkC [] c_fc9 if_fc9 ks_fc9 := by
 refine ok fun G H ⟨a0, a1⟩ r h => ?_
 refine st1 fun bs t o => ?_
 dsimp only [gf_fc9] at h
 exact cls
theorem d_ek9 : OkC [c_ei9, c_em9, c_cp9] c_ek9 if_ek9 ks_ek9 := by
 refine ok fun G H ⟨a0, a1⟩ r h => ?_
 have H_ei9 := H _ (.head _)
 have H_em9 := H _ (.tail _ (.head _))
 have H_cp9 := H _ (.tail _ (.tail _ (.head _)))
 refine st1 fun bs t o => ?_
 dsimp only [gf_ek9] at h
 obtain ⟨x2, h3, h⟩ := bnd h
 refine go ?_;intros
 refine c_call (c := c_ei9) (a0, a1) H_ei9 h3 fun ch => ?_
 obtain ⟨hf109, h⟩ := gd h
 obtain ⟨q94, h137, h⟩ := bnd h
 refine go ?_;intros
 refine w_last (fun t o => ∃ b135 c136, Pin t (ovr [(5, .ref 96 b135 c136 0 q94.length 155)] t) ∧ PinH o (ovh [(96, ent b135 c136 155 (List.map (eChange true) q94))] o)) ?_ ?_
 ·refine w_loop2 (fun n t o => ∃ l103 k101 v96 b97 c98 b99 c100, gl_ek9_1 a0 a1 l103 k101 v96 = some q94 ∧ n = l103.length ∧ (x2).drop k101 = l103 ∧ Pin t (ovr [(0, .ro (List.map (eFeat false) a0)), (1, .ro (List.map (eFeat false) a1)), (5, .ref 96 b97 c98 0 v96.length 155), (6, .ref 120 b99 c100 0 x2.length 49), (7, .v (.int .i64 (k101 : Int)))] t) ∧ PinH o (ovh [(96, ent b97 c98 155 (List.map (eChange true) v96)), (120, ent b99 c100 49 (List.map eStr x2))] o)) _ ⟨_, _, _, _, _, _, _, h137, rfl, rfl, pin, pinh⟩ ?_
  rintro n t o ⟨l103, k101, v96, b97, c98, b99, c100, h137, rfl, hd104, pq1, pq2⟩
  refine pinned pq1 pq2 ?_
  cases l103 with
  | nil =>
   have hge106 := drop_ge hd104
   rw [gl_ek9_1] at h137
   refine go ?_;intros
   rw [hge106]
   refine go ?_;intros
   cases h137
   exact k_cn ⟨_, _, pin, pinh⟩
  | cons x102 l103 =>
   have hlt105 := drop_lt hd104
   have hx107 := drop_ix hd104
   have hw108 := drop_wr hd104 hf109
   rw [gl_ek9_1] at h137
   refine go ?_;intros
   rw [hlt105]
   refine go ?_;intros
   refine r_ire (xs := x2) rfl rfl hx107 rfl ?_
   refine go ?_;intros
   refine r_lde (f := eStr) (xs := x2) (x := x102) rfl rfl (idx_get hx107).2 rfl rfl rfl ?_
   obtain ⟨x110, h111, h137⟩ := bnd h137
   refine go ?_;intros
   refine c_call (c := c_em9) (a0, x102) H_em9 h111 fun ch => ?_
   refine go ?_;intros
   refine r_ire (xs := x2) rfl rfl hx107 rfl ?_
   refine go ?_;intros
   refine r_lde (f := eStr) (xs := x2) (x := x102) rfl rfl (idx_get hx107).2 rfl rfl rfl ?_
   obtain ⟨x117, h118, h137⟩ := bnd h137
   refine go ?_;intros
   refine c_call (c := c_em9) (a1, x102) H_em9 h118 fun ch => ?_
   refine go ?_;intros
   refine s_split rfl (fun c => ?_) (fun c => ?_)
   ·replace h137 := itt h137 c
    rw [c]
    refine go ?_;intros
    refine r_ire (xs := x2) rfl rfl hx107 rfl ?_
    refine go ?_;intros
    refine r_lde (f := eStr) (xs := x2) (x := x102) rfl rfl (idx_get hx107).2 rfl rfl rfl ?_
    refine go ?_;intros
    try simp only [take_map_len, take_ent]
    obtain ⟨h129, h137⟩ := gd h137
    refine go ?_;intros
    refine r_app (f := (eChange true)) (xs := v96) (ys := ([(⟨x102, x110.2, x110.1, x117.2, x117.1⟩ : Change)] : (List Change))) rfl (src_mv rfl rfl (by first | rfl | simp)) rfl rfl (by first | rfl | simp) h129 fun b127 c128 => ?_
    refine go ?_;intros
    rw [hw108]
    exact k_ln2 _ (Nat.lt_succ_self _) ⟨_, _, _, _, _, _, _, h137, rfl, drop_next hd104, pin, pinh⟩
   replace h137 := itf h137 c
   rw [c]
   obtain ⟨x124, h125, h137⟩ := bnd h137
   refine go ?_;intros
   refine c_call (c := c_cp9) (x110.1, x117.1) H_cp9 h125 fun ch => ?_
   refine go ?_;intros
   refine w_cond rfl (fun c => ?_) (fun c => ?_)
   ·replace h137 := itt h137 c
    try rw [c]
    refine go ?_;intros
    refine r_ire (xs := x2) rfl rfl hx107 rfl ?_
    refine go ?_;intros
    refine r_lde (f := eStr) (xs := x2) (x := x102) rfl rfl (idx_get hx107).2 rfl rfl rfl ?_
    refine go ?_;intros
    try simp only [take_map_len, take_ent]
    obtain ⟨h133, h137⟩ := gd h137
    refine go ?_;intros
    refine r_app (f := (eChange true)) (xs := v96) (ys := ([(⟨x102, x110.2, x110.1, x117.2, x117.1⟩ : Change)] : (List Change))) rfl (src_mv rfl rfl (by first | rfl | simp)) rfl rfl (by first | rfl | simp) h133 fun b131 c132 => ?_
    refine go ?_;intros
    rw [hw108]
    exact k_ln2 _ (Nat.lt_succ_self _) ⟨_, _, _, _, _, _, _, h137, rfl, drop_next hd104, pin, pinh⟩
   replace h137 := itf h137 c
   try rw [c]
   refine go ?_;intros
   rw [hw108]
   exact k_ln2 _ (Nat.lt_succ_self _) ⟨_, _, _, _, _, _, _, h137, rfl, drop_next hd104, pin, pinh⟩
 rintro t o ⟨b135, c136, pq1, pq2⟩
 refine pinnedQ pq1 pq2 ?_
 refine go ?_;intros
 cases h
 exact r_end
theorem d_eh9 : OkC [c_dr9] c_eh9 if_eh9 ks_eh9 := by
 refine ok fun G H a0 r h => ?_
 refine st1 fun bs t o => ?_
 dsimp only [gf_eh9] at h
 exact cls
theorem d_fb9 : OkC [c_eh9] c_fb9 if_fb9 ks_fb9 := by
 refine ok fun G H a0 r h => ?_
 refine st1 fun bs t o => ?_
 dsimp only [gf_fb9] at h
 try (refine gx ?_; intros; rename_i h)
 obtain ⟨hf, h⟩ := gd h
 obtain ⟨q54, hq, h⟩ := bnd h
 refine w_lastK [] [] (fun K J t o => ∃ b83 c84, PP ((3, .ref 40 b83 c84 0 q54.length 155) :: K) ((40, ent b83 c84 155 (List.map (eChange true) q54)) :: J) t o) ?_ ?_
 ·refine w_lpL (xs := a0) [0] [] 0 hf (fun K J l61 k59 t o => ∃ v56 b57 c58, gl_fb9_1 l61 k59 v56 = some q54 ∧ PP ((3, .ref 40 b57 c58 0 v56.length 155) :: (4, .v (.int .i64 (k59 : Int))) :: K) ((40, ent b57 c58 155 (List.map (eChange true) v56)) :: J) t o) ?_ ?_ ?_
  ·exact ⟨_, _, _, hq, pin, pinh⟩
  ·rintro k59 t o hlt ⟨v56, b57, c58, h, pq⟩
   refine pn pq ?_
   rw [gl_fb9_1] at h
   exact cls
  rintro x60 l61 k59 t o hlt hx65 hw hd ⟨v56, b57, c58, h, pq⟩
  refine pn pq ?_
  rw [gl_fb9_1] at h
  exact cls
 rintro t o ⟨b83, c84, pq⟩
 refine pnq pq ?_
 exact cls
theorem d_cr9 : OkC [c_cv9, c_fc9, c_ek9, c_fb9] c_cr9 if_cr9 ks_cr9 := by
 refine ok fun G H a0 r h => ?_
 refine st1 fun bs t o => ?_
 dsimp only [gf_cr9] at h
 try (refine gx ?_; intros; rename_i h)
 obtain ⟨hf, h⟩ := gd h
 obtain ⟨q76, hq, h⟩ := bnd h
 refine w_lastK [] [] (fun K J t o => ∃ b112 c113, PP ((3, .ref 48 b112 c113 0 q76.length 163) :: K) ((48, ent b112 c113 163 (List.map (eEntry true) q76)) :: J) t o) ?_ ?_
 ·refine w_lpL (xs := a0.commits) [1] [8] 0 hf (fun K J l83 k81 t o => ∃ v78 b79 c80, gl_cr9_1 a0 l83 k81 v78 = some q76 ∧ PP ((3, .ref 48 b79 c80 0 v78.length 163) :: (4, .v (.int .i64 (k81 : Int))) :: K) ((48, ent b79 c80 163 (List.map (eEntry true) v78)) :: J) t o) ?_ ?_ ?_
  ·exact ⟨_, _, _, hq, pin, pinh⟩
  ·rintro k81 t o hlt ⟨v78, b79, c80, h, pq⟩
   refine pn pq ?_
   rw [gl_cr9_1] at h
   exact cls
  rintro x82 l83 k81 t o hlt hx87 hw hd ⟨v78, b79, c80, h, pq⟩
  refine pn pq ?_
  rw [gl_cr9_1] at h
  exact cls
 rintro t o ⟨b112, c113, pq⟩
 refine pnq pq ?_
 exact cls
theorem d_bs9 : OkC [] c_bs9 if_bs9 ks_bs9 := by
 refine ok fun G H ⟨a0, a1, a2⟩ r h => ?_
 refine st1 fun bs t o => ?_
 dsimp only [gf_bs9] at h
 obtain ⟨q, hs, h⟩ := bnd h
 obtain ⟨s0, s1, s2⟩ := slc_le hs
 refine go ?_;intros
 refine r_sl3 rfl rfl rfl rfl rfl hs rfl ?_
 refine go ?_;intros
 refine w_cond rfl (fun c => ?_) (fun c => ?_)
 ·replace h := itt h c
  try rw [c]
  refine go ?_;intros
  cases h
  exact r_endg
 replace h := itf h c
 try rw [c]
 refine go ?_;intros
 refine r_slv0 (j := a1) rfl rfl rfl rfl s0 (by omega) ?_
 refine go ?_;intros
 refine r_slv1 (j := a2) rfl rfl rfl rfl (by omega) s2 ?_
 refine go ?_;intros
 refine r_ain (f := (eFeat false)) (xs := a0) (ys := a0.drop a2.toNat) (i := a1.toNat) (j := a2.toNat) (m := a0.length - a2.toNat) rfl rfl rfl (del_ys a0) (by omega) (by omega) (fun _ => rfl) ?_
 refine go ?_;intros
 refine r_slx2 (i := ((a1.toNat + (a0.length - a2.toNat) : Nat) : Int)) (j := (a0.length : Int)) (rows := List.map (eFeat false) (a0.take a1.toNat ++ a0.drop a2.toNat ++ a0.drop (a1.toNat + (a0.length - a2.toNat)))) rfl rfl rfl rfl rfl (by omega) (by omega) (by simp; omega) ?_
 refine go ?_;intros
 refine r_clr (f := (eFeat false)) (xs := a0.take a1.toNat ++ a0.drop a2.toNat ++ a0.drop (a1.toNat + (a0.length - a2.toNat))) (z0 := (⟨⟨#[]⟩, ⟨0, []⟩, []⟩ : Feat)) rfl rfl rfl (by simp; omega) (fun _ => rfl) ?_
 refine go ?_;intros
 refine r_trn ?_
 refine go ?_;intros
 refine r_trv (f := (eFeat false)) (ys := a0.take a1.toNat ++ a0.drop a2.toNat) (xs := del_xs a0 a1 a2 (⟨⟨#[]⟩, ⟨0, []⟩, []⟩ : Feat)) rfl rfl (del_eq s0 s1 s2) (del_le s0 s1 s2) ?_
 refine go ?_;intros
 cases h
 rw [del_len s0 s1 s2]
 exact r_endg
theorem d_ac9 : OkC [] c_ac9 if_ac9 ks_ac9 := by
 refine ok fun G H ⟨a0, a1⟩ r h => ?_
 refine st1 fun bs t o => ?_
 dsimp only [gf_ac9] at h
 exact cls

theorem d_ab9 : OkC [c_ay9, c_ae9, c_bf9, c_bm9, c_ai9, c_bg9, c_bs9, c_bc9, c_cj9] c_ab9 if_ab9 ks_ab9 := by
 refine ok fun G H ⟨a0, a1⟩ r h => ?_
 have H_cj9 := H _ (.tail _ (.tail _ (.tail _ (.tail _ (.tail _ (.tail _ (.tail _ (.tail _ (.head _)))))))))
 replace H := hpre 8 H
 refine st1 fun bs t o => ?_
 dsimp only [gf_ab9] at h
 refine gx fun x1 h2 x3 h4 x7 h8 => ?_; intros; rename_i h
 obtain ⟨hf, h⟩ := gd h
 obtain ⟨q168, hq, h⟩ := bnd h
 refine w_lastK [] [] (fun K J t o => ∃ q168_ b232 c233, q168 = .inr q168_ ∧ PP ((6, .ref 2000006 b232 c233 0 q168_.length 100) :: K) ((2000006, ent b232 c233 100 (List.map (eFeat false) q168_)) :: J) t o) ?_ ?_
 ·have ho1 := h
  refine w_lpL (xs := a1) [0, 23, 24] [] 0 hf (fun K J l175 k173 t o => ∃ v170 b171 c172, gl_ac9 a0 l175 k173 v170 = some q168 ∧ PP ((6, .ref 2000006 b171 c172 0 v170.length 100) :: (25, .v (.int .i64 (k173 : Int))) :: K) ((2000006, ent b171 c172 100 (List.map (eFeat false) v170)) :: J) t o) ?_ ?_ ?_
  ·exact ⟨_, _, _, hq, pin, pinh⟩
  ·rintro k173 t o hlt ⟨v170, b171, c172, h, pq⟩
   refine pn pq ?_
   rw [gl_ac9] at h
   exact cls
  rintro x174 l175 k173 t o hlt hx179 hw hd ⟨v170, b171, c172, h, pq⟩
  refine pn pq ?_
  rw [gl_ac9] at h
  try (refine gx ?_; intros; rename_i h)
  obtain ⟨q183, hq, h⟩ := bnd h
  refine w_cutK [0, 6, 8, 23, 24, 25] [2000006, 64] (fun K J t o => ∃ b193 c194 b196 c197 b200, PP ((9, .ptr 72 b200 100 0 0) :: (10, .v (.bool q183.1)) :: K) ((1001154, ent b193 c194 66 (List.map ePt q183.2.1)) :: (1001155, ent b196 c197 82 (List.map eTag q183.2.2.1)) :: (72, ⟨b200, 1, 100, true, [[.v (.string q183.2.2.2.1), .v (.int .i64 q183.2.2.2.2), .al 1001154 b193 c194 0 q183.2.1.length 66, .al 1001155 b196 c197 0 q183.2.2.1.length 82]]⟩) :: J) t o) ?_ ?_
  ·have h := hq
   exact cls
  rintro t o ⟨b193, c194, b196, c197, b200, pq⟩
  refine pn pq ?_
  exact cls
 rintro t o ⟨q168, b232, c233, rfl, pq⟩
 refine pnq pq ?_
 try (refine gx ?_; intros; rename_i h)
 obtain ⟨x234, h235, h⟩ := bnd h
 have L235 := l_cj9 h235; (try dsimp only at L235); (first | replace L235 := And.intro L235.1.symm L235.2.symm | replace L235 := L235.symm); (try obtain ⟨L235, M235⟩ := L235); refine c_callg (c := c_cj9) (q168) H_cj9 h235 fun ch => ?_
 exact cls
theorem d_al9 : OkC [c_bo9, c_ab9, c_ao9, c_bd9] c_al9 if_al9 ks_al9 := by
 refine ok fun G H ⟨a0, a1⟩ r h => ?_
 refine st1 fun bs t o => ?_
 dsimp only [gf_al9] at h
 refine gx fun h6 => ?_; intros; rename_i h
 obtain ⟨hf, h⟩ := gd h
 obtain ⟨q172, hq, h⟩ := bnd h
 refine w_lastK [4] [1000512, 1000513, 32] (fun K J t o => ∃ q172_ b238 c239 b4 c5 b240, q172 = .inr q172_ ∧ PP ((6, .ptr 48 b240 210 0 0) :: K) ((1000768, ent b238 c239 115 (List.map (eCommit false) q172_)) :: (1000769, ent b4 c5 130 (List.map eHead ([] ++ a1))) :: (48, ⟨b240, 1, 210, true, [[.al 1000768 b238 c239 0 q172_.length 115, .al 1000769 b4 c5 0 ([] ++ a1).length 130]]⟩) :: J) t o) ?_ ?_
 ·have ho1 := h
  refine w_lpL (xs := a0) [4, 23, 24] [1000512, 1000513, 32] 0 hf (fun K J l180 k178 t o => ∃ v174 b175 c176 b4 c5 b177, gl_al9_4 l180 k178 v174 = some q172 ∧ PP ((6, .ptr 48 b177 210 0 0) :: (25, .v (.int .i64 (k178 : Int))) :: K) ((1000768, ent b175 c176 115 (List.map (eCommit false) v174)) :: (1000769, ent b4 c5 130 (List.map eHead ([] ++ a1))) :: (48, ⟨b177, 1, 210, true, [[.al 1000768 b175 c176 0 v174.length 115, .al 1000769 b4 c5 0 ([] ++ a1).length 130]]⟩) :: J) t o) ?_ ?_ ?_
  ·exact ⟨_, _, _, _, _, _, hq, pin, pinh⟩
  ·rintro k178 t o hlt ⟨v174, b175, c176, b4, c5, b177, h, pq⟩
   refine pn pq ?_
   rw [gl_al9_4] at h
   exact cls
  rintro x179 l180 k178 t o hlt hx184 hw hd ⟨v174, b175, c176, b4, c5, b177, h, pq⟩
  refine pn pq ?_
  rw [gl_al9_4] at h
  try (refine gx ?_; intros; rename_i h)
  obtain ⟨hf, h⟩ := gd h
  obtain ⟨q201, hq, h⟩ := bnd h
  refine w_lastK [4, 6, 8, 23, 24, 25] [1000512, 1000513, 32, 1000768, 1000769, 48, 64] (fun K J t o => ∃ q201_, q201 = .inr q201_ ∧ PP K J t o) ?_ ?_
  ·have ho2 := h
   refine w_lpL (xs := x179.up) [4, 6, 7, 8, 23, 24, 25, 31, 32] [1000512, 1000513, 32, 1000768, 1000769, 48, 64] 0 hf (fun K J l205 k203 t o => gl_al9_5 k178 l205 k203  = some q201 ∧ PP ((33, .v (.int .i64 (k203 : Int))) :: K) J t o) ?_ ?_ ?_
   ·exact ⟨hq, pin, pinh⟩
   ·rintro k203 t o hlt ⟨h, pq⟩
    refine pn pq ?_
    rw [gl_al9_5] at h
    exact cls
   rintro x204 l205 k203 t o hlt hx209 hw hd ⟨h, pq⟩
   refine pn pq ?_
   rw [gl_al9_5] at h
   exact cls
  rintro t o ⟨q201, rfl, pq⟩
  refine pnq pq ?_
  try (refine gx ?_; intros; rename_i h)
  obtain ⟨q219, hq, h⟩ := bnd h
  refine w_cutK [4, 6, 8, 23, 24, 25] [1000512, 1000513, 32, 1000768, 1000769, 48, 64] (fun K J t o => PP ((11, .ro (List.map (eFeat false) q219)) :: K) J t o) ?_ ?_
  ·have h := hq
   exact cls
  rintro t o pq
  refine pn pq ?_
  exact cls
 rintro t o ⟨q172, b238, c239, b4, c5, b240, rfl, pq⟩
 refine pnq pq ?_
 exact cls
theorem d_ad9 : OkC [c_ay9, c_bi9, c_bm9, c_aa9] c_ad9 if_ad9 ks_ad9 := by
 refine ok fun G H ⟨a0, a1⟩ r h => ?_
 refine st1 fun bs t o => ?_
 dsimp only [gf_ad9] at h
 refine gx fun x2 h3 x4 h5 x7 h8 => ?_; intros; rename_i h
 obtain ⟨hf, h⟩ := gd h
 obtain ⟨q111, hq, h⟩ := bnd h
 refine w_lastK [] [] (fun K J t o => ∃ b156 c157, PP ((5, .ref 72 b156 c157 0 q111.length 155) :: K) ((72, ent b156 c157 155 (List.map (eChange true) q111)) :: J) t o) ?_ ?_
 ·refine w_lpL (xs := x7) [0, 1, 22, 23] [176] 0 hf (fun K J l118 k116 t o => ∃ v113 b114 c115, gl_ad9_1 a0 a1 l118 k116 v113 = some q111 ∧ PP ((5, .ref 72 b114 c115 0 v113.length 155) :: (24, .v (.int .i64 (k116 : Int))) :: K) ((72, ent b114 c115 155 (List.map (eChange true) v113)) :: J) t o) ?_ ?_ ?_
  ·exact ⟨_, _, _, hq, pin, pinh⟩
  ·rintro k116 t o hlt ⟨v113, b114, c115, h, pq⟩
   refine pn pq ?_
   rw [gl_ad9_1] at h
   exact cls
  rintro x117 l118 k116 t o hlt hx122 hw hd ⟨v113, b114, c115, h, pq⟩
  refine pn pq ?_
  rw [gl_ad9_1] at h
  try (refine gx ?_; intros; rename_i h)
  obtain ⟨q126, hq, h⟩ := bnd h
  refine w_cutK [0, 1, 5, 7, 22, 23, 24] [72, 176] (fun K J t o => ∃ b134 c135 b137 c138 b142, PP ((8, .ptr 64 b142 155 0 0) :: K) ((1001028, ent b134 c135 66 (List.map ePt q126.1)) :: (1001029, ent b137 c138 82 (List.map eTag q126.2.1)) :: (1001033, ent none 0 66 (List.map ePt [])) :: (1001034, ent none 0 82 (List.map eTag [])) :: (64, ⟨b142, 1, 155, true, [[.v (.string x117), .v (.bool q126.2.2.1), .v (.string q126.2.2.2.1), .v (.int .i64 q126.2.2.2.2), .al 1001028 b134 c135 0 q126.1.length 66, .al 1001029 b137 c138 0 q126.2.1.length 82, .v (.bool false), .v (.string (⟨#[]⟩ : Str)), .v (.int .i64 0), .al 1001033 none 0 0 ([] : List Pt).length 66, .al 1001034 none 0 0 ([] : List Tag).length 82]]⟩) :: J) t o) ?_ ?_
  ·have h := hq
   exact cls
  rintro t o ⟨b134, c135, b137, c138, b142, pq⟩
  refine pn pq ?_
  exact cls
 rintro t o ⟨b156, c157, pq⟩
 refine pnq pq ?_
 exact cls
theorem d_ak9 : OkC [c_ao9, c_ad9] c_ak9 if_ak9 ks_ak9 := by
 refine ok fun G H a0 r h => ?_
 refine st1 fun bs t o => ?_
 dsimp only [gf_ak9] at h
 refine gx fun x3 h4 => ?_; intros; rename_i h
 obtain ⟨hf, h⟩ := gd h
 obtain ⟨q87, hq, h⟩ := bnd h
 refine w_lastK [] [] (fun K J t o => ∃ b126 c127, PP ((3, .ref 56 b126 c127 0 q87.length 163) :: K) ((56, ent b126 c127 163 (List.map (eEntry true) q87)) :: J) t o) ?_ ?_
 ·refine w_lpL (xs := a0.commits) [1, 13, 14] [8] 0 hf (fun K J l94 k92 t o => ∃ v89 b90 c91, gl_ak9_1 a0 l94 k92 v89 = some q87 ∧ PP ((3, .ref 56 b90 c91 0 v89.length 163) :: (15, .v (.int .i64 (k92 : Int))) :: K) ((56, ent b90 c91 163 (List.map (eEntry true) v89)) :: J) t o) ?_ ?_ ?_
  ·exact ⟨_, _, _, hq, pin, pinh⟩
  ·rintro k92 t o hlt ⟨v89, b90, c91, h, pq⟩
   refine pn pq ?_
   rw [gl_ak9_1] at h
   exact cls
  rintro x93 l94 k92 t o hlt hx98 hw hd ⟨v89, b90, c91, h, pq⟩
  refine pn pq ?_
  rw [gl_ak9_1] at h
  try (refine gx ?_; intros; rename_i h)
  obtain ⟨q107, hq, h⟩ := bnd h
  refine w_cutK [1, 3, 5, 13, 14, 15] [8, 56, 40] (fun K J t o => PP ((6, .ro (List.map (eFeat false) q107)) :: K) J t o) ?_ ?_
  ·have h := hq
   exact cls
  rintro t o pq
  refine pn pq ?_
  exact cls
 rintro t o ⟨b126, c127, pq⟩
 refine pnq pq ?_
 exact cls
theorem d_cn9 : OkC [c_dd9, c_ep9] c_cn9 if_cn9 ks_cn9 := by
 refine ok fun G H ⟨a0, g0, g1⟩ r h => ?_
 refine st1 fun bs t o => ?_
 dsimp only [gf_cn9] at h
 exact cls
theorem d_bp9 : OkC [c_cn9, c_ak9, c_an9, c_cr9, c_cs9, c_cv9, c_al9, c_ap9, c_am9] c_bp9 if_bp9 ks_bp9 := by
 refine ok fun G H ⟨a0, g0, g1⟩ r h => ?_
 refine st1 fun bs t o => ?_
 dsimp only [gf_bp9] at h
 exact cls
end Go.Proofs.AM
