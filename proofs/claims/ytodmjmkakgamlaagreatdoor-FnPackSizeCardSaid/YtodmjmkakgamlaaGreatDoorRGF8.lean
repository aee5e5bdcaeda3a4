/- Lemmas of the proof (RGF8), on an abstract machine. Conditions: none. -/
import Derived.Test.YtodmjmkakgamlaaGreatDoorRGD
set_option linter.unusedVariables false
set_option linter.unusedSimpArgs false
set_option maxRecDepth 100000
set_option maxHeartbeats 4000000
namespace Go.Proofs.AM
attribute [local irreducible] vwp vstps vstpLs vstp vdo vret kseq kblk kloop kend kcut kloop2 frzV renV shutK pfzV trnV unrV
theorem d_ae9 : OkC [c_ah9] c_ae9 if_ae9 ks_ae9 := by
 refine ok fun G H ⟨a0, a1⟩ r h => ?_
 refine st1 fun bs t o => ?_
 dsimp only [gf_ae9] at h
 exact cls
theorem d_ad9 : OkC [c_ac9, c_ae9] c_ad9 if_ad9 ks_ad9 := by
 refine ok fun G H a0 r h => ?_
 have H_ae9 := H _ (.tail _ (.head _))
 replace H := hpre 1 H
 refine st1 fun bs t o => ?_
 dsimp only [gf_ad9] at h
 refine gx fun x1 h2 => ?_; intros; rename_i h
 obtain ⟨hf, h⟩ := gd h
 obtain ⟨q62, hq, h⟩ := bnd h
 refine w_lastK [] [] (fun K J t o => PP ((4, .v (.string q62)) :: K) J t o) ?_ ?_
 ·refine w_lpL (xs := a0) [3, 10, 11] [] 0 hf (fun K J l67 k65 t o => ∃ v63, gl_ae9 l67 k65 v63 = some q62 ∧ PP ((4, .v (.string v63)) :: (12, .v (.int .i64 (k65 : Int))) :: K) J t o) ?_ ?_ ?_
  ·exact ⟨_, hq, pin, pinh⟩
  ·rintro k65 t o hlt ⟨v63, h, pq⟩
   refine pn pq ?_
   rw [gl_ae9] at h
   exact cls
  rintro x66 l67 k65 t o hlt hx71 hw hd ⟨v63, h, pq⟩
  refine pn pq ?_
  rw [gl_ae9] at h
  refine gx fun x75 h76 => ?_; intros; rename_i h
  obtain ⟨x77, h78, h⟩ := bnd h
  refine c_calld (c := c_ae9) (x66.had, x66.was) H_ae9 h78 fun ch => ?_
  refine gx fun x79 h80 x81 h82 => ?_; intros; rename_i h
  obtain ⟨x83, h84, h⟩ := bnd h
  refine c_calld (c := c_ae9) (x66.has, x66.now) H_ae9 h84 fun ch => ?_
  exact cls
 rintro t o pq
 refine pnq pq ?_
 exact cls
theorem d_ak9 : OkC [c_fb9, c_ad9] c_ak9 if_ak9 ks_ak9 := by
 refine ok fun G H a0 r h => ?_
 refine st1 fun bs t o => ?_
 dsimp only [gf_ak9] at h
 try (refine gx ?_; intros; rename_i h)
 obtain ⟨hf, h⟩ := gd h
 obtain ⟨q189, hq, h⟩ := bnd h
 refine w_lastK [] [] (fun K J t o => PP ((3, .v (.string q189)) :: K) J t o) ?_ ?_
 ·refine w_lpL (xs := a0) [8, 9] [] 0 hf (fun K J l194 k192 t o => ∃ v190, gl_ak9_4 l194 k192 v190 = some q189 ∧ PP ((3, .v (.string v190)) :: (10, .v (.int .i64 (k192 : Int))) :: K) J t o) ?_ ?_ ?_
  ·exact ⟨_, hq, pin, pinh⟩
  ·rintro k192 t o hlt ⟨v190, h, pq⟩
   refine pn pq ?_
   rw [gl_ak9_4] at h
   exact cls
  rintro x193 l194 k192 t o hlt hx198 hw hd ⟨v190, h, pq⟩
  refine pn pq ?_
  rw [gl_ak9_4] at h
  refine gx fun x202 h203 x204 h205 => ?_; intros; rename_i h
  obtain ⟨hf, h⟩ := gd h
  obtain ⟨q232, hq, h⟩ := bnd h
  refine w_lastK [5, 8, 9, 10] [40] (fun K J t o => PP ((3, .v (.string q232)) :: K) J t o) ?_ ?_
  ·refine w_lpL (xs := x193.up) [5, 8, 9, 10, 20, 21] [40] 0 hf (fun K J l237 k235 t o => ∃ v233, gl_ak9_5 l237 k235 v233 = some q232 ∧ PP ((3, .v (.string v233)) :: (22, .v (.int .i64 (k235 : Int))) :: K) J t o) ?_ ?_ ?_
   ·exact ⟨_, hq, pin, pinh⟩
   ·rintro k235 t o hlt ⟨v233, h, pq⟩
    refine pn pq ?_
    rw [gl_ak9_5] at h
    exact cls
   rintro x236 l237 k235 t o hlt hx241 hw hd ⟨v233, h, pq⟩
   refine pn pq ?_
   rw [gl_ak9_5] at h
   exact cls
  rintro t o pq
  refine pnq pq ?_
  exact cls
 rintro t o pq
 refine pnq pq ?_
 exact cls
theorem d_fa9 : OkC [] c_fa9 if_fa9 ks_fa9 := by
 refine ok fun G H ⟨a0, a1⟩ r h => ?_
 refine st1 fun bs t o => ?_
 dsimp only [gf_fa9] at h
 exact cls
theorem d_eh9 : OkC [c_ef9, c_ej9, c_ck9] c_eh9 if_eh9 ks_eh9 := by
 refine ok fun G H ⟨a0, a1⟩ r h => ?_
 have H_ef9 := H _ (.head _)
 have H_ej9 := H _ (.tail _ (.head _))
 have H_ck9 := H _ (.tail _ (.tail _ (.head _)))
 refine st1 fun bs t o => ?_
 dsimp only [gf_eh9] at h
 obtain ⟨x2, h3, h⟩ := bnd h
 refine go ?_;intros
 refine c_call (c := c_ef9) (a0, a1) H_ef9 h3 fun ch => ?_
 obtain ⟨hf109, h⟩ := gd h
 obtain ⟨q94, h137, h⟩ := bnd h
 refine go ?_;intros
 refine w_last (fun t o => ∃ b135 c136, Pin t (ovr [(5, .ref 96 b135 c136 0 q94.length 155)] t) ∧ PinH o (ovh [(96, ent b135 c136 155 (List.map (eChange true) q94))] o)) ?_ ?_
 ·refine w_loop2 (fun n t o => ∃ l103 k101 v96 b97 c98 b99 c100, gl_eh9_1 a0 a1 l103 k101 v96 = some q94 ∧ n = l103.length ∧ (x2).drop k101 = l103 ∧ Pin t (ovr [(0, .ro (List.map (eFeat false) a0)), (1, .ro (List.map (eFeat false) a1)), (5, .ref 96 b97 c98 0 v96.length 155), (6, .ref 120 b99 c100 0 x2.length 49), (7, .v (.int .i64 (k101 : Int)))] t) ∧ PinH o (ovh [(96, ent b97 c98 155 (List.map (eChange true) v96)), (120, ent b99 c100 49 (List.map eStr x2))] o)) _ ⟨_, _, _, _, _, _, _, h137, rfl, rfl, pin, pinh⟩ ?_
  rintro n t o ⟨l103, k101, v96, b97, c98, b99, c100, h137, rfl, hd104, pq1, pq2⟩
  refine pinned pq1 pq2 ?_
  cases l103 with
  | nil =>
   have hge106 := drop_ge hd104
   rw [gl_eh9_1] at h137
   refine go ?_;intros
   rw [hge106]
   refine go ?_;intros
   cases h137
   exact k_cn ⟨_, _, pin, pinh⟩
  | cons x102 l103 =>
   have hlt105 := drop_lt hd104
   have hx107 := drop_ix hd104
   have hw108 := drop_wr hd104 hf109
   rw [gl_eh9_1] at h137
   refine go ?_;intros
   rw [hlt105]
   refine go ?_;intros
   refine r_ire (xs := x2) rfl rfl hx107 rfl ?_
   refine go ?_;intros
   refine r_lde (f := eStr) (xs := x2) (x := x102) rfl rfl (idx_get hx107).2 rfl rfl rfl ?_
   obtain ⟨x110, h111, h137⟩ := bnd h137
   refine go ?_;intros
   refine c_call (c := c_ej9) (a0, x102) H_ej9 h111 fun ch => ?_
   refine go ?_;intros
   refine r_ire (xs := x2) rfl rfl hx107 rfl ?_
   refine go ?_;intros
   refine r_lde (f := eStr) (xs := x2) (x := x102) rfl rfl (idx_get hx107).2 rfl rfl rfl ?_
   obtain ⟨x117, h118, h137⟩ := bnd h137
   refine go ?_;intros
   refine c_call (c := c_ej9) (a1, x102) H_ej9 h118 fun ch => ?_
   refine go ?_;intros
   refine s_split rfl (fun c => ?_) (fun c => ?_)
   ·replace h137 := itt h137 c
    rw [c]
    refine go ?_;intros
    refine r_ire (xs := x2) rfl rfl hx107 rfl ?_
    refine go ?_;intros
    refine r_lde (f := eStr) (xs := x2) (x := x102) rfl rfl (idx_get hx107).2 rfl rfl rfl ?_
    refine go ?_;intros
    try simp only [take_map_len, take_ent]
    obtain ⟨h129, h137⟩ := gd h137
    refine go ?_;intros
    refine r_app (f := (eChange true)) (xs := v96) (ys := ([(⟨x102, x110.2, x110.1, x117.2, x117.1⟩ : Change)] : (List Change))) rfl (src_mv rfl rfl (by first | rfl | simp)) rfl rfl (by first | rfl | simp) h129 fun b127 c128 => ?_
    refine go ?_;intros
    rw [hw108]
    exact k_ln2 _ (Nat.lt_succ_self _) ⟨_, _, _, _, _, _, _, h137, rfl, drop_next hd104, pin, pinh⟩
   replace h137 := itf h137 c
   rw [c]
   obtain ⟨x124, h125, h137⟩ := bnd h137
   refine go ?_;intros
   refine c_call (c := c_ck9) (x110.1, x117.1) H_ck9 h125 fun ch => ?_
   refine go ?_;intros
   refine w_cond rfl (fun c => ?_) (fun c => ?_)
   ·replace h137 := itt h137 c
    try rw [c]
    refine go ?_;intros
    refine r_ire (xs := x2) rfl rfl hx107 rfl ?_
    refine go ?_;intros
    refine r_lde (f := eStr) (xs := x2) (x := x102) rfl rfl (idx_get hx107).2 rfl rfl rfl ?_
    refine go ?_;intros
    try simp only [take_map_len, take_ent]
    obtain ⟨h133, h137⟩ := gd h137
    refine go ?_;intros
    refine r_app (f := (eChange true)) (xs := v96) (ys := ([(⟨x102, x110.2, x110.1, x117.2, x117.1⟩ : Change)] : (List Change))) rfl (src_mv rfl rfl (by first | rfl | simp)) rfl rfl (by first | rfl | simp) h133 fun b131 c132 => ?_
    refine go ?_;intros
    rw [hw108]
    exact k_ln2 _ (Nat.lt_succ_self _) ⟨_, _, _, _, _, _, _, h137, rfl, drop_next hd104, pin, pinh⟩
   replace h137 := itf h137 c
   try rw [c]
   refine go ?_;intros
   rw [hw108]
   exact k_ln2 _ (Nat.lt_succ_self _) ⟨_, _, _, _, _, _, _, h137, rfl, drop_next hd104, pin, pinh⟩
 rintro t o ⟨b135, c136, pq1, pq2⟩
 refine pinnedQ pq1 pq2 ?_
 refine go ?_;intros
 cases h
 exact r_end
theorem d_ed9 : OkC [c_dn9] c_ed9 if_ed9 ks_ed9 := by
 refine ok fun G H a0 r h => ?_
 refine st1 fun bs t o => ?_
 dsimp only [gf_ed9] at h
 exact cls
theorem d_ey9 : OkC [c_ed9] c_ey9 if_ey9 ks_ey9 := by
 refine ok fun G H a0 r h => ?_
 refine st1 fun bs t o => ?_
 dsimp only [gf_ey9] at h
 try (refine gx ?_; intros; rename_i h)
 obtain ⟨hf, h⟩ := gd h
 obtain ⟨q54, hq, h⟩ := bnd h
 refine w_lastK [] [] (fun K J t o => ∃ b83 c84, PP ((3, .ref 40 b83 c84 0 q54.length 155) :: K) ((40, ent b83 c84 155 (List.map (eChange true) q54)) :: J) t o) ?_ ?_
 ·refine w_lpL (xs := a0) [0] [] 0 hf (fun K J l61 k59 t o => ∃ v56 b57 c58, gl_ey9_1 l61 k59 v56 = some q54 ∧ PP ((3, .ref 40 b57 c58 0 v56.length 155) :: (4, .v (.int .i64 (k59 : Int))) :: K) ((40, ent b57 c58 155 (List.map (eChange true) v56)) :: J) t o) ?_ ?_ ?_
  ·exact ⟨_, _, _, hq, pin, pinh⟩
  ·rintro k59 t o hlt ⟨v56, b57, c58, h, pq⟩
   refine pn pq ?_
   rw [gl_ey9_1] at h
   exact cls
  rintro x60 l61 k59 t o hlt hx65 hw hd ⟨v56, b57, c58, h, pq⟩
  refine pn pq ?_
  rw [gl_ey9_1] at h
  exact cls
 rintro t o ⟨b83, c84, pq⟩
 refine pnq pq ?_
 exact cls
theorem d_cm9 : OkC [c_cr9, c_fa9, c_eh9, c_ey9] c_cm9 if_cm9 ks_cm9 := by
 refine ok fun G H a0 r h => ?_
 refine st1 fun bs t o => ?_
 dsimp only [gf_cm9] at h
 try (refine gx ?_; intros; rename_i h)
 obtain ⟨hf, h⟩ := gd h
 obtain ⟨q76, hq, h⟩ := bnd h
 refine w_lastK [] [] (fun K J t o => ∃ b112 c113, PP ((3, .ref 48 b112 c113 0 q76.length 163) :: K) ((48, ent b112 c113 163 (List.map (eEntry true) q76)) :: J) t o) ?_ ?_
 ·refine w_lpL (xs := a0.commits) [1] [8] 0 hf (fun K J l83 k81 t o => ∃ v78 b79 c80, gl_cm9_1 a0 l83 k81 v78 = some q76 ∧ PP ((3, .ref 48 b79 c80 0 v78.length 163) :: (4, .v (.int .i64 (k81 : Int))) :: K) ((48, ent b79 c80 163 (List.map (eEntry true) v78)) :: J) t o) ?_ ?_ ?_
  ·exact ⟨_, _, _, hq, pin, pinh⟩
  ·rintro k81 t o hlt ⟨v78, b79, c80, h, pq⟩
   refine pn pq ?_
   rw [gl_cm9_1] at h
   exact cls
  rintro x82 l83 k81 t o hlt hx87 hw hd ⟨v78, b79, c80, h, pq⟩
  refine pn pq ?_
  rw [gl_cm9_1] at h
  exact cls
 rintro t o ⟨b112, c113, pq⟩
 refine pnq pq ?_
 exact cls
theorem d_ee9 : OkC [c_eb9, c_eg9, c_eh9, c_dc9, c_dm9, c_db9] c_ee9 if_ee9 ks_ee9 := by
 refine ok fun G H ⟨a0, g0, g1⟩ r h => ?_
 have H_eb9 := H _ (.head _)
 have H_eg9 := H _ (.tail _ (.head _))
 have H_eh9 := H _ (.tail _ (.tail _ (.head _)))
 have H_dc9 := H _ (.tail _ (.tail _ (.tail _ (.head _))))
 have H_dm9 := H _ (.tail _ (.tail _ (.tail _ (.tail _ (.head _)))))
 have H_db9 := H _ (.tail _ (.tail _ (.tail _ (.tail _ (.tail _ (.head _))))))
 refine st1 fun bs t o => ?_
 dsimp only [gf_ee9] at h
 refine go ?_;intros
 refine r_frz ?_
 obtain ⟨x1, h2, h⟩ := bnd h
 refine go ?_;intros
 refine c_callg (c := c_eb9) (a0, g0, g1) H_eb9 h2 fun ch => ?_
 refine go ?_;intros
 refine c_fz ?_
 obtain ⟨x5, h6, h⟩ := bnd h
 refine go ?_;intros
 refine c_callg (c := c_eg9) ((⟨a0.b, x1.2⟩ : Rd), x1.1, g0, g1) H_eg9 h6 fun ch => ?_
 refine go ?_;intros
 refine r_pfz ?_
 obtain ⟨x7, h8, h⟩ := bnd h
 refine go ?_;intros
 refine c_call (c := c_eh9) (x1.1, x5.1) H_eh9 h8 fun ch => ?_
 refine go ?_;intros
 refine r_pz (f := eChange true) (g := eChange false) (pf_Change _) rfl rfl ?_
 refine go ?_;intros
 refine w_cond rfl (fun c => ?_) (fun c => ?_)
 ·replace h := itt h (by first | exact c | (have c2 := c; simp only [List.length_map] at c2; exact c2))
  try rw [c]
  refine go ?_;intros
  cases h
  exact r_endg
 replace h := itf h (by first | exact c | (have c2 := c; simp only [List.length_map] at c2; exact c2))
 try rw [c]
 obtain ⟨x11, h12, h⟩ := bnd h
 refine go ?_;intros
 refine c_callg (c := c_dc9) ((⟨a0.b, x5.2⟩ : Rd), (x7.length : Int), g0, g1) H_dc9 h12 fun ch => ?_
 obtain ⟨x13, h14, h⟩ := bnd h
 refine go ?_;intros
 refine c_callg (c := c_dc9) ((⟨a0.b, x11.2⟩ : Rd), 32, g0, g1) H_dc9 h14 fun ch => ?_
 refine go ?_;intros
 refine w_cond rfl (fun c => ?_) (fun c => ?_)
 ·replace h := itt h c
  try rw [c]
  obtain ⟨x15, h16, h⟩ := bnd h
  refine go ?_;intros
  refine r_ire (xs := x7) rfl rfl h16 rfl ?_
  refine go ?_;intros
  refine r_lde (f := (eChange false)) (xs := x7) (x := x15) rfl rfl (idx_get h16).2 rfl rfl rfl ?_
  refine go ?_;intros
  refine r_ire (xs := x7) rfl rfl h16 rfl ?_
  refine go ?_;intros
  refine c_ste (f := (eChange false)) x7 (⟨x15.id, (!x15.had), x15.was, x15.has, x15.now⟩ : Change) (idx_get h16).2 ?_
  refine go ?_;intros
  cases h
  exact r_endg
 replace h := itf h c
 try rw [c]
 refine go ?_;intros
 refine w_cond rfl (fun c => ?_) (fun c => ?_)
 ·replace h := itt h c
  try rw [c]
  refine go ?_;intros
  refine r_frz ?_
  obtain ⟨x17, h18, h⟩ := bnd h
  refine go ?_;intros
  refine c_callg (c := c_dm9) ((⟨a0.b, x13.2⟩ : Rd), g0, g1) H_dm9 h18 fun ch => ?_
  refine go ?_;intros
  refine c_fz ?_
  obtain ⟨x23, h24, h⟩ := bnd h
  refine go ?_;intros
  refine r_ire (xs := x7) rfl rfl h24 rfl ?_
  refine go ?_;intros
  refine c_ste (f := (eChange false)) x7 (⟨x23.id, x23.had, x17.1, x23.has, x23.now⟩ : Change) (idx_get h24).2 ?_
  refine go ?_;intros
  cases h
  exact r_endg
 replace h := itf h c
 try rw [c]
 refine go ?_;intros
 refine w_cond rfl (fun c => ?_) (fun c => ?_)
 ·replace h := itt h c
  try rw [c]
  obtain ⟨x25, h26, h⟩ := bnd h
  refine go ?_;intros
  refine r_ire (xs := x7) rfl rfl h26 rfl ?_
  refine go ?_;intros
  refine r_lde (f := (eChange false)) (xs := x7) (x := x25) rfl rfl (idx_get h26).2 rfl rfl rfl ?_
  obtain ⟨h30, h⟩ := gd h
  refine go ?_;intros
  refine r_app (f := (eChange false)) (xs := x7) (ys := ([x25] : (List Change))) rfl (src_mv rfl rfl (by first | rfl | simp)) rfl rfl (by first | rfl | simp) h30 fun b28 c29 => ?_
  refine go ?_;intros
  cases h
  exact r_endg
 replace h := itf h c
 try rw [c]
 refine go ?_;intros
 refine w_cond rfl (fun c => ?_) (fun c => ?_)
 ·replace h := itt h c
  try rw [c]
  obtain ⟨x32, h33, h⟩ := bnd h
  refine go ?_;intros
  refine c_callg (c := c_db9) ((⟨a0.b, x13.2⟩ : Rd), ([(⟨#[]⟩ : Str), (⟨#[122]⟩ : Str), (⟨#[97]⟩ : Str)] : (List Str)), g0, g1) H_db9 h33 fun ch => ?_
  obtain ⟨x34, h35, h⟩ := bnd h
  refine go ?_;intros
  refine r_ire (xs := x7) rfl rfl h35 rfl ?_
  refine go ?_;intros
  refine c_ste (f := (eChange false)) x7 (⟨x32.1, x34.had, x34.was, x34.has, x34.now⟩ : Change) (idx_get h35).2 ?_
  refine go ?_;intros
  cases h
  exact r_endg
 replace h := itf h c
 try rw [c]
 refine go ?_;intros
 cases h
 exact r_endg
theorem d_ez9 : OkC [c_em9, c_cm9, c_dc9, c_ee9] c_ez9 if_ez9 ks_ez9 := by
 refine ok fun G H ⟨a0, g0, g1⟩ r h => ?_
 have H_em9 := H _ (.head _)
 have H_cm9 := H _ (.tail _ (.head _))
 have H_dc9 := H _ (.tail _ (.tail _ (.head _)))
 have H_ee9 := H _ (.tail _ (.tail _ (.tail _ (.head _))))
 refine st1 fun bs t o => ?_
 dsimp only [gf_ez9] at h
 obtain ⟨x1, h2, h⟩ := bnd h
 refine go ?_;intros
 refine c_callg (c := c_em9) (a0, g0, g1) H_em9 h2 fun ch => ?_
 refine go ?_;intros
 refine r_pfz ?_
 obtain ⟨x8, h9, h⟩ := bnd h
 refine go ?_;intros
 refine c_call (c := c_cm9) (x1.1) H_cm9 h9 fun ch => ?_
 refine go ?_;intros
 refine r_pz (f := (eEntry true)) (g := eEntryX) (pf_Entry _) rfl rfl ?_
 refine go ?_;intros
 refine w_cond rfl (fun c => ?_) (fun c => ?_)
 ·replace h := itt h (by first | exact c | (have c2 := c; simp only [List.length_map] at c2; exact c2))
  try rw [c]
  refine go ?_;intros
  cases h
  exact r_endg
 replace h := itf h (by first | exact c | (have c2 := c; simp only [List.length_map] at c2; exact c2))
 try rw [c]
 obtain ⟨x12, h13, h⟩ := bnd h
 refine go ?_;intros
 refine c_callg (c := c_dc9) ((⟨a0.b, x1.2⟩ : Rd), (x8.length : Int), g0, g1) H_dc9 h13 fun ch => ?_
 obtain ⟨q44, h84, h⟩ := bnd h
 refine go ?_;intros
 refine w_cut (fun t o => ∃ b75 c76 b77 c78 b79 b81 c82, Pin t (ovr [(4, .ptr 32 b79 210 0 0), (5, .ref 80 b81 c82 0 q44.1.length 163)] t) ∧ PinH o (ovh [(1000512, ent b75 c76 115 (List.map eCommitX x1.1.commits)), (1000513, ent b77 c78 130 (List.map eHead x1.1.heads)), (32, ⟨b79, 1, 210, true, [[.al 1000512 b75 c76 0 x1.1.commits.length 115, .al 1000513 b77 c78 0 x1.1.heads.length 130]]⟩), (80, ent b81 c82 163 (List.map eEntryX q44.1)), (0, ⟨(bs 0).1, (bs 0).2, 290, true, [[.rw g0 g1 (List.map eU8 a0.b), .v (.int .i64 q44.2)]]⟩)] o)) ?_ ?_
 ·obtain ⟨x45, h46, h84⟩ := bnd h84
  refine go ?_;intros
  refine c_callg (c := c_dc9) ((⟨a0.b, x12.2⟩ : Rd), 24, g0, g1) H_dc9 h46 fun ch => ?_
  obtain ⟨q47, h85, h84⟩ := bnd h84
  refine go ?_;intros
  refine w_cut (fun t o => ∃ b48 c49 b50 c51 b52 b53 c54, Pin t (ovr [(0, .ptr 0 (bs 0).1 290 0 0), (4, .ptr 32 b52 210 0 0), (5, .ref 80 b53 c54 0 x8.length 163), (6, .v (.int .i64 x12.1)), (22, .v (.int .i64 x45.1)), (23, .v (.bool (x45.1 == 0)))] t) ∧ PinH o (ovh [(0, ⟨(bs 0).1, (bs 0).2, 290, true, [[.rw g0 g1 (List.map eU8 a0.b), .v (.int .i64 x45.2)]]⟩), (1000512, ent b48 c49 115 (List.map eCommitX x1.1.commits)), (1000513, ent b50 c51 130 (List.map eHead x1.1.heads)), (32, ⟨b52, 1, 210, true, [[.al 1000512 b48 c49 0 x1.1.commits.length 115, .al 1000513 b50 c51 0 x1.1.heads.length 130]]⟩), (80, ent b53 c54 163 (List.map eEntryX x8))] o)) ?_ ?_
  ·refine go ?_;intros
   cases h85
   exact k_cn ⟨_, _, _, _, _, _, _, pin, pinh⟩
  rintro t o ⟨b48, c49, b50, c51, b52, b53, c54, pq1, pq2⟩
  refine pinned pq1 pq2 ?_
  refine go ?_;intros
  refine w_cond rfl (fun c => ?_) (fun c => ?_)
  ·replace h84 := itt h84 c
   try rw [c]
   refine go ?_;intros
   refine r_frz ?_
   obtain ⟨x55, h56, h84⟩ := bnd h84
   refine go ?_;intros
   refine c_callg (c := c_ee9) ((⟨a0.b, x45.2⟩ : Rd), g0, g1) H_ee9 h56 fun ch => ?_
   refine go ?_;intros
   refine c_fz ?_
   obtain ⟨x59, h60, h84⟩ := bnd h84
   refine go ?_;intros
   refine r_ire (xs := x8) rfl rfl h60 rfl ?_
   refine go ?_;intros
   refine c_ste (f := eEntryX) x8 (⟨x59.up, x59.note, x55.1⟩ : Entry) (idx_get h60).2 ?_
   refine go ?_;intros
   cases h84
   exact k_cn ⟨_, _, _, _, _, _, _, pin, pinh⟩
  replace h84 := itf h84 c
  try rw [c]
  refine go ?_;intros
  refine w_cond rfl (fun c => ?_) (fun c => ?_)
  ·replace h84 := itt h84 c
   try rw [c]
   obtain ⟨x61, h62, h84⟩ := bnd h84
   refine go ?_;intros
   refine r_ire (xs := x8) rfl rfl h62 rfl ?_
   refine go ?_;intros
   refine r_lopg (f := eEntryX) (g := eInt) (xs := x8) (x := x61) (ys := x61.up) (idx_get h62).2 rfl rfl rfl fun b63 c64 => ?_
   obtain ⟨h68, h84⟩ := gd h84
   refine go ?_;intros
   refine r_app (f := eInt) (xs := x61.up) (ys := ([x12.1] : (List Int))) rfl (src_mv rfl rfl (by first | rfl | simp)) rfl rfl (by first | rfl | simp) h68 fun b66 c67 => ?_
   refine go ?_;intros
   refine r_ire (xs := x8) rfl rfl h62 rfl ?_
   refine go ?_;intros
   refine c_stc (f := eEntryX) x8 (⟨(x61.up ++ ([x12.1] : (List Int))), x61.note, x61.diff⟩ : Entry) (idx_get h62).2 ?_
   refine go ?_;intros
   cases h84
   exact k_cn ⟨_, _, _, _, _, _, _, pin, pinh⟩
  replace h84 := itf h84 c
  try rw [c]
  refine go ?_;intros
  refine w_cond rfl (fun c => ?_) (fun c => ?_)
  ·replace h84 := itt h84 c
   try rw [c]
   obtain ⟨x69, h70, h84⟩ := bnd h84
   refine go ?_;intros
   refine r_ire (xs := x8) rfl rfl h70 rfl ?_
   refine go ?_;intros
   refine c_ste (f := eEntryX) x8 (⟨x69.up, (⟨#[]⟩ : Str), x69.diff⟩ : Entry) (idx_get h70).2 ?_
   refine go ?_;intros
   cases h84
   exact k_cn ⟨_, _, _, _, _, _, _, pin, pinh⟩
  replace h84 := itf h84 c
  try rw [c]
  refine go ?_;intros
  refine w_cond rfl (fun c => ?_) (fun c => ?_)
  ·replace h84 := itt h84 c
   try rw [c]
   refine go ?_;intros
   refine r_trn ?_
   obtain ⟨x71, h72, h84⟩ := bnd h84
   refine go ?_;intros
   refine r_slr (xs := x8) h72 rfl rfl rfl rfl (by first | rfl | simp) ?_
   refine go ?_;intros
   refine r_tr (f := eEntryX) h72 rfl rfl rfl ?_
   refine go ?_;intros
   cases h84
   exact k_cn ⟨_, _, _, _, _, _, _, pin, pinh⟩
  replace h84 := itf h84 c
  try rw [c]
  refine go ?_;intros
  refine w_cond rfl (fun c => ?_) (fun c => ?_)
  ·replace h84 := itt h84 c
   try rw [c]
   obtain ⟨x73, h74, h84⟩ := bnd h84
   refine go ?_;intros
   refine r_ire (xs := x8) rfl rfl h74 rfl ?_
   refine go ?_;intros
   refine c_ste (f := eEntryX) x8 (⟨x73.up, x73.note, []⟩ : Entry) (idx_get h74).2 ?_
   refine go ?_;intros
   cases h84
   exact k_cn ⟨_, _, _, _, _, _, _, pin, pinh⟩
  replace h84 := itf h84 c
  try rw [c]
  refine go ?_;intros
  cases h84
  exact k_cn ⟨_, _, _, _, _, _, _, pin, pinh⟩
 rintro t o ⟨b75, c76, b77, c78, b79, b81, c82, pq1, pq2⟩
 refine pinned pq1 pq2 ?_
 refine go ?_;intros
 cases h
 exact r_endg
theorem d_ab9 : OkC [c_ax9, c_bh9, c_bl9, c_aa9] c_ab9 if_ab9 ks_ab9 := by
 refine ok fun G H ⟨a0, a1⟩ r h => ?_
 refine st1 fun bs t o => ?_
 dsimp only [gf_ab9] at h
 refine gx fun x2 h3 x4 h5 x7 h8 => ?_; intros; rename_i h
 obtain ⟨hf, h⟩ := gd h
 obtain ⟨q111, hq, h⟩ := bnd h
 refine w_lastK [] [] (fun K J t o => ∃ b156 c157, PP ((5, .ref 72 b156 c157 0 q111.length 155) :: K) ((72, ent b156 c157 155 (List.map (eChange true) q111)) :: J) t o) ?_ ?_
 ·refine w_lpL (xs := x7) [0, 1, 22, 23] [176] 0 hf (fun K J l118 k116 t o => ∃ v113 b114 c115, gl_ab9_1 a0 a1 l118 k116 v113 = some q111 ∧ PP ((5, .ref 72 b114 c115 0 v113.length 155) :: (24, .v (.int .i64 (k116 : Int))) :: K) ((72, ent b114 c115 155 (List.map (eChange true) v113)) :: J) t o) ?_ ?_ ?_
  ·exact ⟨_, _, _, hq, pin, pinh⟩
  ·rintro k116 t o hlt ⟨v113, b114, c115, h, pq⟩
   refine pn pq ?_
   rw [gl_ab9_1] at h
   exact cls
  rintro x117 l118 k116 t o hlt hx122 hw hd ⟨v113, b114, c115, h, pq⟩
  refine pn pq ?_
  rw [gl_ab9_1] at h
  try (refine gx ?_; intros; rename_i h)
  obtain ⟨q126, hq, h⟩ := bnd h
  refine w_cutK [0, 1, 5, 7, 22, 23, 24] [72, 176] (fun K J t o => ∃ b134 c135 b137 c138 b142, PP ((8, .ptr 64 b142 155 0 0) :: K) ((1001028, ent b134 c135 66 (List.map ePt q126.1)) :: (1001029, ent b137 c138 82 (List.map eTag q126.2.1)) :: (1001033, ent none 0 66 (List.map ePt [])) :: (1001034, ent none 0 82 (List.map eTag [])) :: (64, ⟨b142, 1, 155, true, [[.v (.string x117), .v (.bool q126.2.2.1), .v (.string q126.2.2.2.1), .v (.int .i64 q126.2.2.2.2), .al 1001028 b134 c135 0 q126.1.length 66, .al 1001029 b137 c138 0 q126.2.1.length 82, .v (.bool false), .v (.string (⟨#[]⟩ : Str)), .v (.int .i64 0), .al 1001033 none 0 0 ([] : List Pt).length 66, .al 1001034 none 0 0 ([] : List Tag).length 82]]⟩) :: J) t o) ?_ ?_
  ·have h := hq
   exact cls
  rintro t o ⟨b134, c135, b137, c138, b142, pq⟩
  refine pn pq ?_
  exact cls
 rintro t o ⟨b156, c157, pq⟩
 refine pnq pq ?_
 exact cls
theorem d_ai9 : OkC [c_an9, c_ab9] c_ai9 if_ai9 ks_ai9 := by
 refine ok fun G H a0 r h => ?_
 refine st1 fun bs t o => ?_
 dsimp only [gf_ai9] at h
 refine gx fun x3 h4 => ?_; intros; rename_i h
 obtain ⟨hf, h⟩ := gd h
 obtain ⟨q87, hq, h⟩ := bnd h
 refine w_lastK [] [] (fun K J t o => ∃ b126 c127, PP ((3, .ref 56 b126 c127 0 q87.length 163) :: K) ((56, ent b126 c127 163 (List.map (eEntry true) q87)) :: J) t o) ?_ ?_
 ·refine w_lpL (xs := a0.commits) [1, 13, 14] [8] 0 hf (fun K J l94 k92 t o => ∃ v89 b90 c91, gl_ai9_1 a0 l94 k92 v89 = some q87 ∧ PP ((3, .ref 56 b90 c91 0 v89.length 163) :: (15, .v (.int .i64 (k92 : Int))) :: K) ((56, ent b90 c91 163 (List.map (eEntry true) v89)) :: J) t o) ?_ ?_ ?_
  ·exact ⟨_, _, _, hq, pin, pinh⟩
  ·rintro k92 t o hlt ⟨v89, b90, c91, h, pq⟩
   refine pn pq ?_
   rw [gl_ai9_1] at h
   exact cls
  rintro x93 l94 k92 t o hlt hx98 hw hd ⟨v89, b90, c91, h, pq⟩
  refine pn pq ?_
  rw [gl_ai9_1] at h
  try (refine gx ?_; intros; rename_i h)
  obtain ⟨q107, hq, h⟩ := bnd h
  refine w_cutK [1, 3, 5, 13, 14, 15] [8, 56, 40] (fun K J t o => PP ((6, .ro (List.map (eFeat false) q107)) :: K) J t o) ?_ ?_
  ·have h := hq
   exact cls
  rintro t o pq
  refine pn pq ?_
  exact cls
 rintro t o ⟨b126, c127, pq⟩
 refine pnq pq ?_
 exact cls
theorem d_cg9 : OkC [c_cz9, c_ez9] c_cg9 if_cg9 ks_cg9 := by
 refine ok fun G H ⟨a0, g0, g1⟩ r h => ?_
 refine st1 fun bs t o => ?_
 dsimp only [gf_cg9] at h
 exact cls
theorem d_ch9 : OkC [c_cg9] c_ch9 if_ch9 ks_ch9 := by
 refine ok fun G H ⟨a0, g0, g1⟩ r h => ?_
 refine st1 fun bs t o => ?_
 dsimp only [gf_ch9] at h
 exact cls
theorem d_bo9 : OkC [c_cg9, c_aj9, c_ch9, c_cn9, c_ak9, c_co9, c_ci9, c_al9, c_am9, c_ab9, c_ai9] c_bo9 if_bo9 ks_bo9 := by
 refine ok fun G H ⟨a0, g0, g1⟩ r h => ?_
 refine st1 fun bs t o => ?_
 dsimp only [gf_bo9] at h
 refine gx fun x1 h2 x5 h6 x7 h8 x11 h12 x13 h14 x15 h16 => ?_; intros; rename_i h
 obtain ⟨hf, h⟩ := gd h
 obtain ⟨q49, hq, h⟩ := bnd h
 refine w_lastK [0, 4] [] (fun K J t o => ∃ q49_, q49 = .inr q49_ ∧ PP ((6, .v (.int .i64 q49_)) :: K) J t o) ?_ ?_
 ·have ho1 := h
  refine w_lpL (xs := x1) [0, 3, 4] [] 0 hf (fun K J l54 k52 t o => ∃ v50, gl_bo9_1 x1 l54 k52 v50 = some q49 ∧ PP ((6, .v (.int .i64 v50)) :: (7, .v (.int .i64 (k52 : Int))) :: K) J t o) ?_ ?_ ?_
  ·exact ⟨_, hq, pin, pinh⟩
  ·rintro k52 t o hlt ⟨v50, h, pq⟩
   refine pn pq ?_
   rw [gl_bo9_1] at h
   exact cls
  rintro x53 l54 k52 t o hlt hx58 hw hd ⟨v50, h, pq⟩
  refine pn pq ?_
  rw [gl_bo9_1] at h
  exact cls
 rintro t o ⟨q49, rfl, pq⟩
 refine pnq pq ?_
 exact cls
end Go.Proofs.AM
