/- Lemmas of the proof (QAF7), on an abstract machine. Conditions: none. -/
import Derived.Test.YtodmjmkakgamlaaGreatQAD
set_option linter.unusedVariables false
set_option linter.unusedSimpArgs false
set_option maxRecDepth 100000
set_option maxHeartbeats 4000000
namespace Go.Proofs.AM
attribute [local irreducible] vwp vstps vstpLs vstp vdo vret kseq kblk kloop kend kcut kloop2 frzV renV shutK pfzV trnV unrV
theorem d_bn9 : OkC [] c_bn9 if_bn9 ks_bn9 := by
 refine ok fun G H ⟨a0, a1⟩ r h => ?_
 refine st1 fun bs t o => ?_
 dsimp only [gf_bn9] at h
 try (refine gx ?_; intros; rename_i h)
 obtain ⟨hf, h⟩ := gd h
 obtain ⟨q14, hq, h⟩ := bnd h
 refine w_lastK [] [] (fun K J t o => ∃ q14_, q14 = .inr q14_ ∧ PP K J t o) ?_ ?_
 ·have ho1 := h
  refine w_lpL (xs := a0) [0, 1, 12] [] 0 hf (fun K J l18 k16 t o => gl_bn9_1 a1 l18 k16  = some q14 ∧ PP ((13, .v (.int .i64 (k16 : Int))) :: K) J t o) ?_ ?_ ?_
  ·exact ⟨hq, pin, pinh⟩
  ·rintro k16 t o hlt ⟨h, pq⟩
   refine pn pq ?_
   rw [gl_bn9_1] at h
   exact cls
  rintro x17 l18 k16 t o hlt hx22 hw hd ⟨h, pq⟩
  refine pn pq ?_
  rw [gl_bn9_1] at h
  exact cls
 rintro t o ⟨q14, rfl, pq⟩
 refine pnq pq ?_
 exact cls
theorem d_bk9 : OkC [c_bc9] c_bk9 if_bj9 ks_bj9 := by
 refine ok fun G H ⟨a0, a1⟩ r h => ?_
 have H_bc9 := H _ (.head _)
 replace H := hpre 0 H
 refine st1 fun bs t o => ?_
 dsimp only [gf_bk9] at h
 try (refine gx ?_; intros; rename_i h)
 obtain ⟨hf, h⟩ := gd h
 obtain ⟨q26, hq, h⟩ := bnd h
 refine w_lastK [] [] (fun K J t o => ∃ q26_, q26 = .inr q26_ ∧ PP K J t o) ?_ ?_
 ·have ho1 := h
  refine w_lpL (xs := a0) [1, 2, 15, 16] [] 0 hf (fun K J l30 k28 t o => gl_bk9_1 a1 l30 k28  = some q26 ∧ PP ((17, .v (.int .i64 (k28 : Int))) :: K) J t o) ?_ ?_ ?_
  ·exact ⟨hq, pin, pinh⟩
  ·rintro k28 t o hlt ⟨h, pq⟩
   refine pn pq ?_
   rw [gl_bk9_1] at h
   exact cls
  rintro x29 l30 k28 t o hlt hx34 hw hd ⟨h, pq⟩
  refine pn pq ?_
  rw [gl_bk9_1] at h
  refine gx fun x38 h39 => ?_; intros; rename_i h
  obtain ⟨x41, h42, h⟩ := bnd h
  refine c_calld (c := c_bc9) (x29, x38) H_bc9 h42 fun ch => ?_
  exact cls
 rintro t o ⟨q26, rfl, pq⟩
 refine pnq pq ?_
 exact cls
theorem d_ai9 : OkC [c_bk9, c_bn9] c_ai9 if_ai9 ks_ai9 := by
 refine ok fun G H ⟨a0, a1⟩ r h => ?_
 refine st1 fun bs t o => ?_
 dsimp only [gf_ai9] at h
 exact cls
theorem d_dy9 : OkC [c_co9, c_ce9, c_cd9] c_dy9 if_dy9 ks_dy9 := by
 refine ok fun G H a0 r h => ?_
 refine st1 fun bs t o => ?_
 dsimp only [gf_dy9] at h
 try (refine gx ?_; intros; rename_i h)
 obtain ⟨q8, hq, h⟩ := bnd h
 refine w_cutK [] [] (fun K J t o => ∃ q8_ b17, q8 = .inr q8_ ∧ PP ((1, .ptr 8 b17 155 0 0) :: K) ((8, ⟨b17, 1, 155, true, [[.v (.string a0.id), .v (.bool q8_.1), .v (.string a0.was.id), .v (.int .i64 a0.was.shape.kind), .sl false 2 (List.map ePt a0.was.shape.pts), .sl false 2 (List.map eTag a0.was.tags), .v (.bool q8_.2), .v (.string a0.now.id), .v (.int .i64 a0.now.shape.kind), .sl false 2 (List.map ePt a0.now.shape.pts), .sl false 2 (List.map eTag a0.now.tags)]]⟩) :: J) t o) ?_ ?_
 ·have ho1 := h
  have h := hq
  exact cls
 rintro t o ⟨q8, b17, rfl, pq⟩
 refine pn pq ?_
 try (refine gx ?_; intros; rename_i h)
 obtain ⟨q24, hq, h⟩ := bnd h
 refine w_cutK [1] [8] (fun K J t o => ∃ q24_, q24 = .inr q24_ ∧ PP K J t o) ?_ ?_
 ·have ho1 := h
  have h := hq
  exact cls
 rintro t o ⟨q24, rfl, pq⟩
 refine pn pq ?_
 exact cls
theorem d_cb9 : OkC [c_dy9] c_cb9 if_cb9 ks_cb9 := by
 refine ok fun G H a0 r h => ?_
 refine st1 fun bs t o => ?_
 dsimp only [gf_cb9] at h
 try (refine gx ?_; intros; rename_i h)
 obtain ⟨hf, h⟩ := gd h
 obtain ⟨q18, hq, h⟩ := bnd h
 refine w_lastK [0] [] (fun K J t o => ∃ q18_, q18 = .inr q18_ ∧ PP K J t o) ?_ ?_
 ·have ho1 := h
  refine w_lpL (xs := a0) [0] [] 0 hf (fun K J l22 k20 t o => gl_cb9_1 a0 l22 k20  = some q18 ∧ PP ((3, .v (.int .i64 (k20 : Int))) :: K) J t o) ?_ ?_ ?_
  ·exact ⟨hq, pin, pinh⟩
  ·rintro k20 t o hlt ⟨h, pq⟩
   refine pn pq ?_
   rw [gl_cb9_1] at h
   exact cls
  rintro x21 l22 k20 t o hlt hx26 hw hd ⟨h, pq⟩
  refine pn pq ?_
  rw [gl_cb9_1] at h
  exact cls
 rintro t o ⟨q18, rfl, pq⟩
 refine pnq pq ?_
 exact cls
theorem d_aa9 : OkC [c_af9] c_aa9 if_aa9 ks_aa9 := by
 refine ok fun G H a0 r h => ?_
 refine st1 fun bs t o => ?_
 dsimp only [gf_aa9] at h
 exact cls
theorem d_ba9 : OkC [] c_ba9 if_ba9 ks_ba9 := by
 refine ok fun G H a0 r h => ?_
 refine st1 fun bs t o => ?_
 dsimp only [gf_ba9] at h
 exact cls
theorem d_be9 : OkC [c_ba9, c_ae9] c_be9 if_be9 ks_be9 := by
 refine ok fun G H ⟨a0, a1, a2⟩ r h => ?_
 refine st1 fun bs t o => ?_
 dsimp only [gf_be9] at h
 exact cls
theorem d_ad9 : OkC [c_as9, c_be9, c_aa9] c_ad9 if_ad9 ks_ad9 := by
 refine ok fun G H a0 r h => ?_
 refine st1 fun bs t o => ?_
 dsimp only [gf_ad9] at h
 try (refine gx ?_; intros; rename_i h)
 obtain ⟨hf, h⟩ := gd h
 obtain ⟨q51, hq, h⟩ := bnd h
 refine w_lastK [0] [] (fun K J t o => ∃ q51_, q51 = .inr q51_ ∧ PP K J t o) ?_ ?_
 ·have ho1 := h
  refine w_lpL (xs := a0) [0, 5, 6] [] 0 hf (fun K J l55 k53 t o => gl_ad9_1 a0 l55 k53  = some q51 ∧ PP ((7, .v (.int .i64 (k53 : Int))) :: K) J t o) ?_ ?_ ?_
  ·exact ⟨hq, pin, pinh⟩
  ·rintro k53 t o hlt ⟨h, pq⟩
   refine pn pq ?_
   rw [gl_ad9_1] at h
   exact cls
  rintro x54 l55 k53 t o hlt hx59 hw hd ⟨h, pq⟩
  refine pn pq ?_
  rw [gl_ad9_1] at h
  exact cls
 rintro t o ⟨q51, rfl, pq⟩
 refine pnq pq ?_
 exact cls
theorem d_ep9 : OkC [] c_ep9 if_ep9 ks_ep9 := by
 refine ok fun G H ⟨a0, a1⟩ r h => ?_
 refine st1 fun bs t o => ?_
 dsimp only [gf_ep9] at h
 exact cls
theorem d_dx9 : OkC [c_dv9, c_dz9, c_ce9] c_dx9 if_dx9 ks_dx9 := by
 refine ok fun G H ⟨a0, a1⟩ r h => ?_
 have H_dv9 := H _ (.head _)
 have H_dz9 := H _ (.tail _ (.head _))
 have H_ce9 := H _ (.tail _ (.tail _ (.head _)))
 refine st1 fun bs t o => ?_
 dsimp only [gf_dx9] at h
 obtain ⟨x2, h3, h⟩ := bnd h
 refine go ?_;intros
 refine c_call (c := c_dv9) (a0, a1) H_dv9 h3 fun ch => ?_
 obtain ⟨hf109, h⟩ := gd h
 obtain ⟨q94, h137, h⟩ := bnd h
 refine go ?_;intros
 refine w_last (fun t o => ∃ b135 c136, Pin t (ovr [(5, .ref 96 b135 c136 0 q94.length 155)] t) ∧ PinH o (ovh [(96, ent b135 c136 155 (List.map (eChange true) q94))] o)) ?_ ?_
 ·refine w_loop2 (fun n t o => ∃ l103 k101 v96 b97 c98 b99 c100, gl_dx9_1 a0 a1 l103 k101 v96 = some q94 ∧ n = l103.length ∧ (x2).drop k101 = l103 ∧ Pin t (ovr [(0, .ro (List.map (eFeat false) a0)), (1, .ro (List.map (eFeat false) a1)), (5, .ref 96 b97 c98 0 v96.length 155), (6, .ref 120 b99 c100 0 x2.length 49), (7, .v (.int .i64 (k101 : Int)))] t) ∧ PinH o (ovh [(96, ent b97 c98 155 (List.map (eChange true) v96)), (120, ent b99 c100 49 (List.map eStr x2))] o)) _ ⟨_, _, _, _, _, _, _, h137, rfl, rfl, pin, pinh⟩ ?_
  rintro n t o ⟨l103, k101, v96, b97, c98, b99, c100, h137, rfl, hd104, pq1, pq2⟩
  refine pinned pq1 pq2 ?_
  cases l103 with
  | nil =>
   have hge106 := drop_ge hd104
   rw [gl_dx9_1] at h137
   refine go ?_;intros
   rw [hge106]
   refine go ?_;intros
   cases h137
   exact k_cn ⟨_, _, pin, pinh⟩
  | cons x102 l103 =>
   have hlt105 := drop_lt hd104
   have hx107 := drop_ix hd104
   have hw108 := drop_wr hd104 hf109
   rw [gl_dx9_1] at h137
   refine go ?_;intros
   rw [hlt105]
   refine go ?_;intros
   refine r_ire (xs := x2) rfl rfl hx107 rfl ?_
   refine go ?_;intros
   refine r_lde (f := eStr) (xs := x2) (x := x102) rfl rfl (idx_get hx107).2 rfl rfl rfl ?_
   obtain ⟨x110, h111, h137⟩ := bnd h137
   refine go ?_;intros
   refine c_call (c := c_dz9) (a0, x102) H_dz9 h111 fun ch => ?_
   refine go ?_;intros
   refine r_ire (xs := x2) rfl rfl hx107 rfl ?_
   refine go ?_;intros
   refine r_lde (f := eStr) (xs := x2) (x := x102) rfl rfl (idx_get hx107).2 rfl rfl rfl ?_
   obtain ⟨x117, h118, h137⟩ := bnd h137
   refine go ?_;intros
   refine c_call (c := c_dz9) (a1, x102) H_dz9 h118 fun ch => ?_
   refine go ?_;intros
   refine s_split rfl (fun c => ?_) (fun c => ?_)
   ·replace h137 := itt h137 c
    rw [c]
    refine go ?_;intros
    refine r_ire (xs := x2) rfl rfl hx107 rfl ?_
    refine go ?_;intros
    refine r_lde (f := eStr) (xs := x2) (x := x102) rfl rfl (idx_get hx107).2 rfl rfl rfl ?_
    refine go ?_;intros
    try simp only [take_map_len, take_ent]
    obtain ⟨h129, h137⟩ := gd h137
    refine go ?_;intros
    refine r_app (f := (eChange true)) (xs := v96) (ys := ([(⟨x102, x110.2, x110.1, x117.2, x117.1⟩ : Change)] : (List Change))) rfl (src_mv rfl rfl (by first | rfl | simp)) rfl rfl (by first | rfl | simp) h129 fun b127 c128 => ?_
    refine go ?_;intros
    rw [hw108]
    exact k_ln2 _ (Nat.lt_succ_self _) ⟨_, _, _, _, _, _, _, h137, rfl, drop_next hd104, pin, pinh⟩
   replace h137 := itf h137 c
   rw [c]
   obtain ⟨x124, h125, h137⟩ := bnd h137
   refine go ?_;intros
   refine c_call (c := c_ce9) (x110.1, x117.1) H_ce9 h125 fun ch => ?_
   refine go ?_;intros
   refine w_cond rfl (fun c => ?_) (fun c => ?_)
   ·replace h137 := itt h137 c
    try rw [c]
    refine go ?_;intros
    refine r_ire (xs := x2) rfl rfl hx107 rfl ?_
    refine go ?_;intros
    refine r_lde (f := eStr) (xs := x2) (x := x102) rfl rfl (idx_get hx107).2 rfl rfl rfl ?_
    refine go ?_;intros
    try simp only [take_map_len, take_ent]
    obtain ⟨h133, h137⟩ := gd h137
    refine go ?_;intros
    refine r_app (f := (eChange true)) (xs := v96) (ys := ([(⟨x102, x110.2, x110.1, x117.2, x117.1⟩ : Change)] : (List Change))) rfl (src_mv rfl rfl (by first | rfl | simp)) rfl rfl (by first | rfl | simp) h133 fun b131 c132 => ?_
    refine go ?_;intros
    rw [hw108]
    exact k_ln2 _ (Nat.lt_succ_self _) ⟨_, _, _, _, _, _, _, h137, rfl, drop_next hd104, pin, pinh⟩
   replace h137 := itf h137 c
   try rw [c]
   refine go ?_;intros
   rw [hw108]
   exact k_ln2 _ (Nat.lt_succ_self _) ⟨_, _, _, _, _, _, _, h137, rfl, drop_next hd104, pin, pinh⟩
 rintro t o ⟨b135, c136, pq1, pq2⟩
 refine pinnedQ pq1 pq2 ?_
 refine go ?_;intros
 cases h
 exact r_end
theorem d_ds9 : OkC [c_dc9] c_ds9 if_ds9 ks_ds9 := by
 refine ok fun G H a0 r h => ?_
 refine st1 fun bs t o => ?_
 dsimp only [gf_ds9] at h
 exact cls
theorem d_en9 : OkC [c_ds9] c_en9 if_en9 ks_en9 := by
 refine ok fun G H a0 r h => ?_
 refine st1 fun bs t o => ?_
 dsimp only [gf_en9] at h
 try (refine gx ?_; intros; rename_i h)
 obtain ⟨hf, h⟩ := gd h
 obtain ⟨q54, hq, h⟩ := bnd h
 refine w_lastK [] [] (fun K J t o => ∃ b83 c84, PP ((3, .ref 40 b83 c84 0 q54.length 155) :: K) ((40, ent b83 c84 155 (List.map (eChange true) q54)) :: J) t o) ?_ ?_
 ·refine w_lpL (xs := a0) [0] [] 0 hf (fun K J l61 k59 t o => ∃ v56 b57 c58, gl_en9_1 l61 k59 v56 = some q54 ∧ PP ((3, .ref 40 b57 c58 0 v56.length 155) :: (4, .v (.int .i64 (k59 : Int))) :: K) ((40, ent b57 c58 155 (List.map (eChange true) v56)) :: J) t o) ?_ ?_ ?_
  ·exact ⟨_, _, _, hq, pin, pinh⟩
  ·rintro k59 t o hlt ⟨v56, b57, c58, h, pq⟩
   refine pn pq ?_
   rw [gl_en9_1] at h
   exact cls
  rintro x60 l61 k59 t o hlt hx65 hw hd ⟨v56, b57, c58, h, pq⟩
  refine pn pq ?_
  rw [gl_en9_1] at h
  exact cls
 rintro t o ⟨b83, c84, pq⟩
 refine pnq pq ?_
 exact cls
theorem d_cf9 : OkC [c_cj9, c_ep9, c_dx9, c_en9] c_cf9 if_cf9 ks_cf9 := by
 refine ok fun G H a0 r h => ?_
 refine st1 fun bs t o => ?_
 dsimp only [gf_cf9] at h
 try (refine gx ?_; intros; rename_i h)
 obtain ⟨hf, h⟩ := gd h
 obtain ⟨q76, hq, h⟩ := bnd h
 refine w_lastK [] [] (fun K J t o => ∃ b112 c113, PP ((3, .ref 48 b112 c113 0 q76.length 163) :: K) ((48, ent b112 c113 163 (List.map (eEntry true) q76)) :: J) t o) ?_ ?_
 ·refine w_lpL (xs := a0.commits) [1] [8] 0 hf (fun K J l83 k81 t o => ∃ v78 b79 c80, gl_cf9_1 a0 l83 k81 v78 = some q76 ∧ PP ((3, .ref 48 b79 c80 0 v78.length 163) :: (4, .v (.int .i64 (k81 : Int))) :: K) ((48, ent b79 c80 163 (List.map (eEntry true) v78)) :: J) t o) ?_ ?_ ?_
  ·exact ⟨_, _, _, hq, pin, pinh⟩
  ·rintro k81 t o hlt ⟨v78, b79, c80, h, pq⟩
   refine pn pq ?_
   rw [gl_cf9_1] at h
   exact cls
  rintro x82 l83 k81 t o hlt hx87 hw hd ⟨v78, b79, c80, h, pq⟩
  refine pn pq ?_
  rw [gl_cf9_1] at h
  exact cls
 rintro t o ⟨b112, c113, pq⟩
 refine pnq pq ?_
 exact cls
theorem d_dt9 : OkC [c_dq9, c_dw9, c_dx9, c_cs9, c_db9, c_cr9] c_dt9 if_dt9 ks_dt9 := by
 refine ok fun G H ⟨a0, g0, g1⟩ r h => ?_
 have H_dq9 := H _ (.head _)
 have H_dw9 := H _ (.tail _ (.head _))
 have H_dx9 := H _ (.tail _ (.tail _ (.head _)))
 have H_cs9 := H _ (.tail _ (.tail _ (.tail _ (.head _))))
 have H_db9 := H _ (.tail _ (.tail _ (.tail _ (.tail _ (.head _)))))
 have H_cr9 := H _ (.tail _ (.tail _ (.tail _ (.tail _ (.tail _ (.head _))))))
 refine st1 fun bs t o => ?_
 dsimp only [gf_dt9] at h
 refine go ?_;intros
 refine r_frz ?_
 obtain ⟨x1, h2, h⟩ := bnd h
 refine go ?_;intros
 refine c_callg (c := c_dq9) (a0, g0, g1) H_dq9 h2 fun ch => ?_
 refine go ?_;intros
 refine c_fz ?_
 obtain ⟨x5, h6, h⟩ := bnd h
 refine go ?_;intros
 refine c_callg (c := c_dw9) ((⟨a0.b, x1.2⟩ : Rd), x1.1, g0, g1) H_dw9 h6 fun ch => ?_
 refine go ?_;intros
 refine r_pfz ?_
 obtain ⟨x7, h8, h⟩ := bnd h
 refine go ?_;intros
 refine c_call (c := c_dx9) (x1.1, x5.1) H_dx9 h8 fun ch => ?_
 refine go ?_;intros
 refine r_pz (f := eChange true) (g := eChange false) (pf_Change _) rfl rfl ?_
 refine go ?_;intros
 refine w_cond rfl (fun c => ?_) (fun c => ?_)
 ·replace h := itt h (by first | exact c | (have c2 := c; simp only [List.length_map] at c2; exact c2))
  try rw [c]
  refine go ?_;intros
  cases h
  exact r_endg
 replace h := itf h (by first | exact c | (have c2 := c; simp only [List.length_map] at c2; exact c2))
 try rw [c]
 obtain ⟨x11, h12, h⟩ := bnd h
 refine go ?_;intros
 refine c_callg (c := c_cs9) ((⟨a0.b, x5.2⟩ : Rd), (x7.length : Int), g0, g1) H_cs9 h12 fun ch => ?_
 obtain ⟨x13, h14, h⟩ := bnd h
 refine go ?_;intros
 refine c_callg (c := c_cs9) ((⟨a0.b, x11.2⟩ : Rd), 32, g0, g1) H_cs9 h14 fun ch => ?_
 refine go ?_;intros
 refine w_cond rfl (fun c => ?_) (fun c => ?_)
 ·replace h := itt h c
  try rw [c]
  obtain ⟨x15, h16, h⟩ := bnd h
  refine go ?_;intros
  refine r_ire (xs := x7) rfl rfl h16 rfl ?_
  refine go ?_;intros
  refine r_lde (f := (eChange false)) (xs := x7) (x := x15) rfl rfl (idx_get h16).2 rfl rfl rfl ?_
  refine go ?_;intros
  refine r_ire (xs := x7) rfl rfl h16 rfl ?_
  refine go ?_;intros
  refine c_ste (f := (eChange false)) x7 (⟨x15.id, (!x15.had), x15.was, x15.has, x15.now⟩ : Change) (idx_get h16).2 ?_
  refine go ?_;intros
  cases h
  exact r_endg
 replace h := itf h c
 try rw [c]
 refine go ?_;intros
 refine w_cond rfl (fun c => ?_) (fun c => ?_)
 ·replace h := itt h c
  try rw [c]
  refine go ?_;intros
  refine r_frz ?_
  obtain ⟨x17, h18, h⟩ := bnd h
  refine go ?_;intros
  refine c_callg (c := c_db9) ((⟨a0.b, x13.2⟩ : Rd), g0, g1) H_db9 h18 fun ch => ?_
  refine go ?_;intros
  refine c_fz ?_
  obtain ⟨x23, h24, h⟩ := bnd h
  refine go ?_;intros
  refine r_ire (xs := x7) rfl rfl h24 rfl ?_
  refine go ?_;intros
  refine c_ste (f := (eChange false)) x7 (⟨x23.id, x23.had, x17.1, x23.has, x23.now⟩ : Change) (idx_get h24).2 ?_
  refine go ?_;intros
  cases h
  exact r_endg
 replace h := itf h c
 try rw [c]
 refine go ?_;intros
 refine w_cond rfl (fun c => ?_) (fun c => ?_)
 ·replace h := itt h c
  try rw [c]
  obtain ⟨x25, h26, h⟩ := bnd h
  refine go ?_;intros
  refine r_ire (xs := x7) rfl rfl h26 rfl ?_
  refine go ?_;intros
  refine r_lde (f := (eChange false)) (xs := x7) (x := x25) rfl rfl (idx_get h26).2 rfl rfl rfl ?_
  obtain ⟨h30, h⟩ := gd h
  refine go ?_;intros
  refine r_app (f := (eChange false)) (xs := x7) (ys := ([x25] : (List Change))) rfl (src_mv rfl rfl (by first | rfl | simp)) rfl rfl (by first | rfl | simp) h30 fun b28 c29 => ?_
  refine go ?_;intros
  cases h
  exact r_endg
 replace h := itf h c
 try rw [c]
 refine go ?_;intros
 refine w_cond rfl (fun c => ?_) (fun c => ?_)
 ·replace h := itt h c
  try rw [c]
  obtain ⟨x32, h33, h⟩ := bnd h
  refine go ?_;intros
  refine c_callg (c := c_cr9) ((⟨a0.b, x13.2⟩ : Rd), ([(⟨#[]⟩ : Str), (⟨#[122]⟩ : Str), (⟨#[97]⟩ : Str)] : (List Str)), g0, g1) H_cr9 h33 fun ch => ?_
  obtain ⟨x34, h35, h⟩ := bnd h
  refine go ?_;intros
  refine r_ire (xs := x7) rfl rfl h35 rfl ?_
  refine go ?_;intros
  refine c_ste (f := (eChange false)) x7 (⟨x32.1, x34.had, x34.was, x34.has, x34.now⟩ : Change) (idx_get h35).2 ?_
  refine go ?_;intros
  cases h
  exact r_endg
 replace h := itf h c
 try rw [c]
 refine go ?_;intros
 cases h
 exact r_endg
end Go.Proofs.AM
