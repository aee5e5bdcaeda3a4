/- Lemmas of the proof (RDF8), on an abstract machine. Conditions: none. -/
import Derived.Test.YtodmjmkakgamlabGreatDoorRDD
set_option linter.unusedVariables false
set_option linter.unusedSimpArgs false
set_option maxRecDepth 100000
set_option maxHeartbeats 4000000
namespace Go.Proofs.AM
attribute [local irreducible] vwp vstps vstpLs vstp vdo vret kseq kblk kloop kend kcut kloop2 frzV renV shutK pfzV trnV unrV
theorem d_ec9 : OkC [c_dm9] c_ec9 if_ec9 ks_ec9 := by
 refine ok fun G H a0 r h => ?_
 refine st1 fun bs t o => ?_
 dsimp only [gf_ec9] at h
 exact cls
theorem d_ex9 : OkC [c_ec9] c_ex9 if_ex9 ks_ex9 := by
 refine ok fun G H a0 r h => ?_
 refine st1 fun bs t o => ?_
 dsimp only [gf_ex9] at h
 try (refine gx ?_; intros; rename_i h)
 obtain ⟨hf, h⟩ := gd h
 obtain ⟨q54, hq, h⟩ := bnd h
 refine w_lastK [] [] (fun K J t o => ∃ b83 c84, PP ((3, .ref 40 b83 c84 0 q54.length 155) :: K) ((40, ent b83 c84 155 (List.map (eChange true) q54)) :: J) t o) ?_ ?_
 ·refine w_lpL (xs := a0) [0] [] 0 hf (fun K J l61 k59 t o => ∃ v56 b57 c58, gl_ex9_1 l61 k59 v56 = some q54 ∧ PP ((3, .ref 40 b57 c58 0 v56.length 155) :: (4, .v (.int .i64 (k59 : Int))) :: K) ((40, ent b57 c58 155 (List.map (eChange true) v56)) :: J) t o) ?_ ?_ ?_
  ·exact ⟨_, _, _, hq, pin, pinh⟩
  ·rintro k59 t o hlt ⟨v56, b57, c58, h, pq⟩
   refine pn pq ?_
   rw [gl_ex9_1] at h
   exact cls
  rintro x60 l61 k59 t o hlt hx65 hw hd ⟨v56, b57, c58, h, pq⟩
  refine pn pq ?_
  rw [gl_ex9_1] at h
  exact cls
 rintro t o ⟨b83, c84, pq⟩
 refine pnq pq ?_
 exact cls
theorem d_cp9 : OkC [c_ct9, c_ez9, c_eh9, c_ex9] c_cp9 if_cp9 ks_cp9 := by
 refine ok fun G H a0 r h => ?_
 refine st1 fun bs t o => ?_
 dsimp only [gf_cp9] at h
 try (refine gx ?_; intros; rename_i h)
 obtain ⟨hf, h⟩ := gd h
 obtain ⟨q76, hq, h⟩ := bnd h
 refine w_lastK [] [] (fun K J t o => ∃ b112 c113, PP ((3, .ref 48 b112 c113 0 q76.length 163) :: K) ((48, ent b112 c113 163 (List.map (eEntry true) q76)) :: J) t o) ?_ ?_
 ·refine w_lpL (xs := a0.commits) [1] [8] 0 hf (fun K J l83 k81 t o => ∃ v78 b79 c80, gl_cp9_1 a0 l83 k81 v78 = some q76 ∧ PP ((3, .ref 48 b79 c80 0 v78.length 163) :: (4, .v (.int .i64 (k81 : Int))) :: K) ((48, ent b79 c80 163 (List.map (eEntry true) v78)) :: J) t o) ?_ ?_ ?_
  ·exact ⟨_, _, _, hq, pin, pinh⟩
  ·rintro k81 t o hlt ⟨v78, b79, c80, h, pq⟩
   refine pn pq ?_
   rw [gl_cp9_1] at h
   exact cls
  rintro x82 l83 k81 t o hlt hx87 hw hd ⟨v78, b79, c80, h, pq⟩
  refine pn pq ?_
  rw [gl_cp9_1] at h
  exact cls
 rintro t o ⟨b112, c113, pq⟩
 refine pnq pq ?_
 exact cls
theorem d_ed9 : OkC [c_ea9, c_eg9, c_eh9, c_dc9, c_dl9, c_db9] c_ed9 if_ed9 ks_ed9 := by
 refine ok fun G H ⟨a0, g0, g1⟩ r h => ?_
 have H_ea9 := H _ (.head _)
 have H_eg9 := H _ (.tail _ (.head _))
 have H_eh9 := H _ (.tail _ (.tail _ (.head _)))
 have H_dc9 := H _ (.tail _ (.tail _ (.tail _ (.head _))))
 have H_dl9 := H _ (.tail _ (.tail _ (.tail _ (.tail _ (.head _)))))
 have H_db9 := H _ (.tail _ (.tail _ (.tail _ (.tail _ (.tail _ (.head _))))))
 refine st1 fun bs t o => ?_
 dsimp only [gf_ed9] at h
 refine go ?_;intros
 refine r_frz ?_
 obtain ⟨x1, h2, h⟩ := bnd h
 refine go ?_;intros
 refine c_callg (c := c_ea9) (a0, g0, g1) H_ea9 h2 fun ch => ?_
 refine go ?_;intros
 refine c_fz ?_
 obtain ⟨x5, h6, h⟩ := bnd h
 refine go ?_;intros
 refine c_callg (c := c_eg9) ((⟨a0.b, x1.2⟩ : Rd), x1.1, g0, g1) H_eg9 h6 fun ch => ?_
 refine go ?_;intros
 refine r_pfz ?_
 obtain ⟨x7, h8, h⟩ := bnd h
 refine go ?_;intros
 refine c_call (c := c_eh9) (x1.1, x5.1) H_eh9 h8 fun ch => ?_
 refine go ?_;intros
 refine r_pz (f := eChange true) (g := eChange false) (pf_Change _) rfl rfl ?_
 refine go ?_;intros
 refine w_cond rfl (fun c => ?_) (fun c => ?_)
 ·replace h := itt h (by first | exact c | (have c2 := c; simp only [List.length_map] at c2; exact c2))
  try rw [c]
  refine go ?_;intros
  cases h
  exact r_endg
 replace h := itf h (by first | exact c | (have c2 := c; simp only [List.length_map] at c2; exact c2))
 try rw [c]
 obtain ⟨x11, h12, h⟩ := bnd h
 refine go ?_;intros
 refine c_callg (c := c_dc9) ((⟨a0.b, x5.2⟩ : Rd), (x7.length : Int), g0, g1) H_dc9 h12 fun ch => ?_
 obtain ⟨x13, h14, h⟩ := bnd h
 refine go ?_;intros
 refine c_callg (c := c_dc9) ((⟨a0.b, x11.2⟩ : Rd), 32, g0, g1) H_dc9 h14 fun ch => ?_
 refine go ?_;intros
 refine w_cond rfl (fun c => ?_) (fun c => ?_)
 ·replace h := itt h c
  try rw [c]
  obtain ⟨x15, h16, h⟩ := bnd h
  refine go ?_;intros
  refine r_ire (xs := x7) rfl rfl h16 rfl ?_
  refine go ?_;intros
  refine r_lde (f := (eChange false)) (xs := x7) (x := x15) rfl rfl (idx_get h16).2 rfl rfl rfl ?_
  refine go ?_;intros
  refine r_ire (xs := x7) rfl rfl h16 rfl ?_
  refine go ?_;intros
  refine c_ste (f := (eChange false)) x7 (⟨x15.id, (!x15.had), x15.was, x15.has, x15.now⟩ : Change) (idx_get h16).2 ?_
  refine go ?_;intros
  cases h
  exact r_endg
 replace h := itf h c
 try rw [c]
 refine go ?_;intros
 refine w_cond rfl (fun c => ?_) (fun c => ?_)
 ·replace h := itt h c
  try rw [c]
  refine go ?_;intros
  refine r_frz ?_
  obtain ⟨x17, h18, h⟩ := bnd h
  refine go ?_;intros
  refine c_callg (c := c_dl9) ((⟨a0.b, x13.2⟩ : Rd), g0, g1) H_dl9 h18 fun ch => ?_
  refine go ?_;intros
  refine c_fz ?_
  obtain ⟨x23, h24, h⟩ := bnd h
  refine go ?_;intros
  refine r_ire (xs := x7) rfl rfl h24 rfl ?_
  refine go ?_;intros
  refine c_ste (f := (eChange false)) x7 (⟨x23.id, x23.had, x17.1, x23.has, x23.now⟩ : Change) (idx_get h24).2 ?_
  refine go ?_;intros
  cases h
  exact r_endg
 replace h := itf h c
 try rw [c]
 refine go ?_;intros
 refine w_cond rfl (fun c => ?_) (fun c => ?_)
 ·replace h := itt h c
  try rw [c]
  obtain ⟨x25, h26, h⟩ := bnd h
  refine go ?_;intros
  refine r_ire (xs := x7) rfl rfl h26 rfl ?_
  refine go ?_;intros
  refine r_lde (f := (eChange false)) (xs := x7) (x := x25) rfl rfl (idx_get h26).2 rfl rfl rfl ?_
  obtain ⟨h30, h⟩ := gd h
  refine go ?_;intros
  refine r_app (f := (eChange false)) (xs := x7) (ys := ([x25] : (List Change))) rfl (src_mv rfl rfl (by first | rfl | simp)) rfl rfl (by first | rfl | simp) h30 fun b28 c29 => ?_
  refine go ?_;intros
  cases h
  exact r_endg
 replace h := itf h c
 try rw [c]
 refine go ?_;intros
 refine w_cond rfl (fun c => ?_) (fun c => ?_)
 ·replace h := itt h c
  try rw [c]
  obtain ⟨x32, h33, h⟩ := bnd h
  refine go ?_;intros
  refine c_callg (c := c_db9) ((⟨a0.b, x13.2⟩ : Rd), ([(⟨#[]⟩ : Str), (⟨#[122]⟩ : Str), (⟨#[97]⟩ : Str)] : (List Str)), g0, g1) H_db9 h33 fun ch => ?_
  obtain ⟨x34, h35, h⟩ := bnd h
  refine go ?_;intros
  refine r_ire (xs := x7) rfl rfl h35 rfl ?_
  refine go ?_;intros
  refine c_ste (f := (eChange false)) x7 (⟨x32.1, x34.had, x34.was, x34.has, x34.now⟩ : Change) (idx_get h35).2 ?_
  refine go ?_;intros
  cases h
  exact r_endg
 replace h := itf h c
 try rw [c]
 refine go ?_;intros
 cases h
 exact r_endg
theorem d_ey9 : OkC [c_el9, c_cp9, c_dc9, c_ed9] c_ey9 if_ey9 ks_ey9 := by
 refine ok fun G H ⟨a0, g0, g1⟩ r h => ?_
 have H_el9 := H _ (.head _)
 have H_cp9 := H _ (.tail _ (.head _))
 have H_dc9 := H _ (.tail _ (.tail _ (.head _)))
 have H_ed9 := H _ (.tail _ (.tail _ (.tail _ (.head _))))
 refine st1 fun bs t o => ?_
 dsimp only [gf_ey9] at h
 obtain ⟨x1, h2, h⟩ := bnd h
 refine go ?_;intros
 refine c_callg (c := c_el9) (a0, g0, g1) H_el9 h2 fun ch => ?_
 refine go ?_;intros
 refine r_pfz ?_
 obtain ⟨x8, h9, h⟩ := bnd h
 refine go ?_;intros
 refine c_call (c := c_cp9) (x1.1) H_cp9 h9 fun ch => ?_
 refine go ?_;intros
 refine r_pz (f := (eEntry true)) (g := eEntryX) (pf_Entry _) rfl rfl ?_
 refine go ?_;intros
 refine w_cond rfl (fun c => ?_) (fun c => ?_)
 ·replace h := itt h (by first | exact c | (have c2 := c; simp only [List.length_map] at c2; exact c2))
  try rw [c]
  refine go ?_;intros
  cases h
  exact r_endg
 replace h := itf h (by first | exact c | (have c2 := c; simp only [List.length_map] at c2; exact c2))
 try rw [c]
 obtain ⟨x12, h13, h⟩ := bnd h
 refine go ?_;intros
 refine c_callg (c := c_dc9) ((⟨a0.b, x1.2⟩ : Rd), (x8.length : Int), g0, g1) H_dc9 h13 fun ch => ?_
 obtain ⟨q44, h84, h⟩ := bnd h
 refine go ?_;intros
 refine w_cut (fun t o => ∃ b75 c76 b77 c78 b79 b81 c82, Pin t (ovr [(4, .ptr 32 b79 210 0 0), (5, .ref 80 b81 c82 0 q44.1.length 163)] t) ∧ PinH o (ovh [(1000512, ent b75 c76 115 (List.map eCommitX x1.1.commits)), (1000513, ent b77 c78 130 (List.map eHead x1.1.heads)), (32, ⟨b79, 1, 210, true, [[.al 1000512 b75 c76 0 x1.1.commits.length 115, .al 1000513 b77 c78 0 x1.1.heads.length 130]]⟩), (80, ent b81 c82 163 (List.map eEntryX q44.1)), (0, ⟨(bs 0).1, (bs 0).2, 290, true, [[.rw g0 g1 (List.map eU8 a0.b), .v (.int .i64 q44.2)]]⟩)] o)) ?_ ?_
 ·obtain ⟨x45, h46, h84⟩ := bnd h84
  refine go ?_;intros
  refine c_callg (c := c_dc9) ((⟨a0.b, x12.2⟩ : Rd), 24, g0, g1) H_dc9 h46 fun ch => ?_
  obtain ⟨q47, h85, h84⟩ := bnd h84
  refine go ?_;intros
  refine w_cut (fun t o => ∃ b48 c49 b50 c51 b52 b53 c54, Pin t (ovr [(0, .ptr 0 (bs 0).1 290 0 0), (4, .ptr 32 b52 210 0 0), (5, .ref 80 b53 c54 0 x8.length 163), (6, .v (.int .i64 x12.1)), (22, .v (.int .i64 x45.1)), (23, .v (.bool (x45.1 == 0)))] t) ∧ PinH o (ovh [(0, ⟨(bs 0).1, (bs 0).2, 290, true, [[.rw g0 g1 (List.map eU8 a0.b), .v (.int .i64 x45.2)]]⟩), (1000512, ent b48 c49 115 (List.map eCommitX x1.1.commits)), (1000513, ent b50 c51 130 (List.map eHead x1.1.heads)), (32, ⟨b52, 1, 210, true, [[.al 1000512 b48 c49 0 x1.1.commits.length 115, .al 1000513 b50 c51 0 x1.1.heads.length 130]]⟩), (80, ent b53 c54 163 (List.map eEntryX x8))] o)) ?_ ?_
  ·refine go ?_;intros
   cases h85
   exact k_cn ⟨_, _, _, _, _, _, _, pin, pinh⟩
  rintro t o ⟨b48, c49, b50, c51, b52, b53, c54, pq1, pq2⟩
  refine pinned pq1 pq2 ?_
  refine go ?_;intros
  refine w_cond rfl (fun c => ?_) (fun c => ?_)
  ·replace h84 := itt h84 c
   try rw [c]
   refine go ?_;intros
   refine r_frz ?_
   obtain ⟨x55, h56, h84⟩ := bnd h84
   refine go ?_;intros
   refine c_callg (c := c_ed9) ((⟨a0.b, x45.2⟩ : Rd), g0, g1) H_ed9 h56 fun ch => ?_
   refine go ?_;intros
   refine c_fz ?_
   obtain ⟨x59, h60, h84⟩ := bnd h84
   refine go ?_;intros
   refine r_ire (xs := x8) rfl rfl h60 rfl ?_
   refine go ?_;intros
   refine c_ste (f := eEntryX) x8 (⟨x59.up, x59.note, x55.1⟩ : Entry) (idx_get h60).2 ?_
   refine go ?_;intros
   cases h84
   exact k_cn ⟨_, _, _, _, _, _, _, pin, pinh⟩
  replace h84 := itf h84 c
  try rw [c]
  refine go ?_;intros
  refine w_cond rfl (fun c => ?_) (fun c => ?_)
  ·replace h84 := itt h84 c
   try rw [c]
   obtain ⟨x61, h62, h84⟩ := bnd h84
   refine go ?_;intros
   refine r_ire (xs := x8) rfl rfl h62 rfl ?_
   refine go ?_;intros
   refine r_lopg (f := eEntryX) (g := eInt) (xs := x8) (x := x61) (ys := x61.up) (idx_get h62).2 rfl rfl rfl fun b63 c64 => ?_
   obtain ⟨h68, h84⟩ := gd h84
   refine go ?_;intros
   refine r_app (f := eInt) (xs := x61.up) (ys := ([x12.1] : (List Int))) rfl (src_mv rfl rfl (by first | rfl | simp)) rfl rfl (by first | rfl | simp) h68 fun b66 c67 => ?_
   refine go ?_;intros
   refine r_ire (xs := x8) rfl rfl h62 rfl ?_
   refine go ?_;intros
   refine c_stc (f := eEntryX) x8 (⟨(x61.up ++ ([x12.1] : (List Int))), x61.note, x61.diff⟩ : Entry) (idx_get h62).2 ?_
   refine go ?_;intros
   cases h84
   exact k_cn ⟨_, _, _, _, _, _, _, pin, pinh⟩
  replace h84 := itf h84 c
  try rw [c]
  refine go ?_;intros
  refine w_cond rfl (fun c => ?_) (fun c => ?_)
  ·replace h84 := itt h84 c
   try rw [c]
   obtain ⟨x69, h70, h84⟩ := bnd h84
   refine go ?_;intros
   refine r_ire (xs := x8) rfl rfl h70 rfl ?_
   refine go ?_;intros
   refine c_ste (f := eEntryX) x8 (⟨x69.up, (⟨#[]⟩ : Str), x69.diff⟩ : Entry) (idx_get h70).2 ?_
   refine go ?_;intros
   cases h84
   exact k_cn ⟨_, _, _, _, _, _, _, pin, pinh⟩
  replace h84 := itf h84 c
  try rw [c]
  refine go ?_;intros
  refine w_cond rfl (fun c => ?_) (fun c => ?_)
  ·replace h84 := itt h84 c
   try rw [c]
   refine go ?_;intros
   refine r_trn ?_
   obtain ⟨x71, h72, h84⟩ := bnd h84
   refine go ?_;intros
   refine r_slr (xs := x8) h72 rfl rfl rfl rfl (by first | rfl | simp) ?_
   refine go ?_;intros
   refine r_tr (f := eEntryX) h72 rfl rfl rfl ?_
   refine go ?_;intros
   cases h84
   exact k_cn ⟨_, _, _, _, _, _, _, pin, pinh⟩
  replace h84 := itf h84 c
  try rw [c]
  refine go ?_;intros
  refine w_cond rfl (fun c => ?_) (fun c => ?_)
  ·replace h84 := itt h84 c
   try rw [c]
   obtain ⟨x73, h74, h84⟩ := bnd h84
   refine go ?_;intros
   refine r_ire (xs := x8) rfl rfl h74 rfl ?_
   refine go ?_;intros
   refine c_ste (f := eEntryX) x8 (⟨x73.up, x73.note, []⟩ : Entry) (idx_get h74).2 ?_
   refine go ?_;intros
   cases h84
   exact k_cn ⟨_, _, _, _, _, _, _, pin, pinh⟩
  replace h84 := itf h84 c
  try rw [c]
  refine go ?_;intros
  cases h84
  exact k_cn ⟨_, _, _, _, _, _, _, pin, pinh⟩
 rintro t o ⟨b75, c76, b77, c78, b79, b81, c82, pq1, pq2⟩
 refine pinned pq1 pq2 ?_
 refine go ?_;intros
 cases h
 exact r_endg
theorem d_cm9 : OkC [c_cz9, c_ey9] c_cm9 if_cm9 ks_cm9 := by
 refine ok fun G H ⟨a0, g0, g1⟩ r h => ?_
 refine st1 fun bs t o => ?_
 dsimp only [gf_cm9] at h
 exact cls
theorem d_br9 : OkC [] c_br9 if_br9 ks_br9 := by
 refine ok fun G H ⟨a0, a1, a2⟩ r h => ?_
 refine st1 fun bs t o => ?_
 dsimp only [gf_br9] at h
 obtain ⟨q, hs, h⟩ := bnd h
 obtain ⟨s0, s1, s2⟩ := slc_le hs
 refine go ?_;intros
 refine r_sl3 rfl rfl rfl rfl rfl hs rfl ?_
 refine go ?_;intros
 refine w_cond rfl (fun c => ?_) (fun c => ?_)
 ·replace h := itt h c
  try rw [c]
  refine go ?_;intros
  cases h
  exact r_endg
 replace h := itf h c
 try rw [c]
 refine go ?_;intros
 refine r_slv0 (j := a1) rfl rfl rfl rfl s0 (by omega) ?_
 refine go ?_;intros
 refine r_slv1 (j := a2) rfl rfl rfl rfl (by omega) s2 ?_
 refine go ?_;intros
 refine r_ain (f := (eFeat false)) (xs := a0) (ys := a0.drop a2.toNat) (i := a1.toNat) (j := a2.toNat) (m := a0.length - a2.toNat) rfl rfl rfl (del_ys a0) (by omega) (by omega) (fun _ => rfl) ?_
 refine go ?_;intros
 refine r_slx2 (i := ((a1.toNat + (a0.length - a2.toNat) : Nat) : Int)) (j := (a0.length : Int)) (rows := List.map (eFeat false) (a0.take a1.toNat ++ a0.drop a2.toNat ++ a0.drop (a1.toNat + (a0.length - a2.toNat)))) rfl rfl rfl rfl rfl (by omega) (by omega) (by simp; omega) ?_
 refine go ?_;intros
 refine r_clr (f := (eFeat false)) (xs := a0.take a1.toNat ++ a0.drop a2.toNat ++ a0.drop (a1.toNat + (a0.length - a2.toNat))) (z0 := (⟨⟨#[]⟩, ⟨0, []⟩, []⟩ : Feat)) rfl rfl rfl (by simp; omega) (fun _ => rfl) ?_
 refine go ?_;intros
 refine r_trn ?_
 refine go ?_;intros
 refine r_trv (f := (eFeat false)) (ys := a0.take a1.toNat ++ a0.drop a2.toNat) (xs := del_xs a0 a1 a2 (⟨⟨#[]⟩, ⟨0, []⟩, []⟩ : Feat)) rfl rfl (del_eq s0 s1 s2) (del_le s0 s1 s2) ?_
 refine go ?_;intros
 cases h
 rw [del_len s0 s1 s2]
 exact r_endg
theorem d_ac9 : OkC [] c_ac9 if_ac9 ks_ac9 := by
 refine ok fun G H ⟨a0, a1⟩ r h => ?_
 refine st1 fun bs t o => ?_
 dsimp only [gf_ac9] at h
 exact cls

theorem d_ab9 : OkC [c_ax9, c_ae9, c_be9, c_bl9, c_ai9, c_bf9, c_br9, c_bb9, c_ci9] c_ab9 if_ab9 ks_ab9 := by
 refine ok fun G H ⟨a0, a1⟩ r h => ?_
 have H_ci9 := H _ (.tail _ (.tail _ (.tail _ (.tail _ (.tail _ (.tail _ (.tail _ (.tail _ (.head _)))))))))
 replace H := hpre 8 H
 refine st1 fun bs t o => ?_
 dsimp only [gf_ab9] at h
 refine gx fun x1 h2 x3 h4 x7 h8 => ?_; intros; rename_i h
 obtain ⟨hf, h⟩ := gd h
 obtain ⟨q168, hq, h⟩ := bnd h
 refine w_lastK [] [] (fun K J t o => ∃ q168_ b232 c233, q168 = .inr q168_ ∧ PP ((6, .ref 2000006 b232 c233 0 q168_.length 100) :: K) ((2000006, ent b232 c233 100 (List.map (eFeat false) q168_)) :: J) t o) ?_ ?_
 ·have ho1 := h
  refine w_lpL (xs := a1) [0, 23, 24] [] 0 hf (fun K J l175 k173 t o => ∃ v170 b171 c172, gl_ac9 a0 l175 k173 v170 = some q168 ∧ PP ((6, .ref 2000006 b171 c172 0 v170.length 100) :: (25, .v (.int .i64 (k173 : Int))) :: K) ((2000006, ent b171 c172 100 (List.map (eFeat false) v170)) :: J) t o) ?_ ?_ ?_
  ·exact ⟨_, _, _, hq, pin, pinh⟩
  ·rintro k173 t o hlt ⟨v170, b171, c172, h, pq⟩
   refine pn pq ?_
   rw [gl_ac9] at h
   exact cls
  rintro x174 l175 k173 t o hlt hx179 hw hd ⟨v170, b171, c172, h, pq⟩
  refine pn pq ?_
  rw [gl_ac9] at h
  try (refine gx ?_; intros; rename_i h)
  obtain ⟨q183, hq, h⟩ := bnd h
  refine w_cutK [0, 6, 8, 23, 24, 25] [2000006, 64] (fun K J t o => ∃ b193 c194 b196 c197 b200, PP ((9, .ptr 72 b200 100 0 0) :: (10, .v (.bool q183.1)) :: K) ((1001154, ent b193 c194 66 (List.map ePt q183.2.1)) :: (1001155, ent b196 c197 82 (List.map eTag q183.2.2.1)) :: (72, ⟨b200, 1, 100, true, [[.v (.string q183.2.2.2.1), .v (.int .i64 q183.2.2.2.2), .al 1001154 b193 c194 0 q183.2.1.length 66, .al 1001155 b196 c197 0 q183.2.2.1.length 82]]⟩) :: J) t o) ?_ ?_
  ·have h := hq
   exact cls
  rintro t o ⟨b193, c194, b196, c197, b200, pq⟩
  refine pn pq ?_
  exact cls
 rintro t o ⟨q168, b232, c233, rfl, pq⟩
 refine pnq pq ?_
 try (refine gx ?_; intros; rename_i h)
 obtain ⟨x234, h235, h⟩ := bnd h
 have L235 := l_ci9 h235; (try dsimp only at L235); (first | replace L235 := And.intro L235.1.symm L235.2.symm | replace L235 := L235.symm); (try obtain ⟨L235, M235⟩ := L235); refine c_callg (c := c_ci9) (q168) H_ci9 h235 fun ch => ?_
 exact cls
theorem d_al9 : OkC [c_bn9, c_ab9, c_an9, c_bc9] c_al9 if_al9 ks_al9 := by
 refine ok fun G H ⟨a0, a1⟩ r h => ?_
 refine st1 fun bs t o => ?_
 dsimp only [gf_al9] at h
 refine gx fun h6 => ?_; intros; rename_i h
 obtain ⟨hf, h⟩ := gd h
 obtain ⟨q172, hq, h⟩ := bnd h
 refine w_lastK [4] [1000512, 1000513, 32] (fun K J t o => ∃ q172_ b238 c239 b4 c5 b240, q172 = .inr q172_ ∧ PP ((6, .ptr 48 b240 210 0 0) :: K) ((1000768, ent b238 c239 115 (List.map (eCommit false) q172_)) :: (1000769, ent b4 c5 130 (List.map eHead ([] ++ a1))) :: (48, ⟨b240, 1, 210, true, [[.al 1000768 b238 c239 0 q172_.length 115, .al 1000769 b4 c5 0 ([] ++ a1).length 130]]⟩) :: J) t o) ?_ ?_
 ·have ho1 := h
  refine w_lpL (xs := a0) [4, 23, 24] [1000512, 1000513, 32] 0 hf (fun K J l180 k178 t o => ∃ v174 b175 c176 b4 c5 b177, gl_al9_4 l180 k178 v174 = some q172 ∧ PP ((6, .ptr 48 b177 210 0 0) :: (25, .v (.int .i64 (k178 : Int))) :: K) ((1000768, ent b175 c176 115 (List.map (eCommit false) v174)) :: (1000769, ent b4 c5 130 (List.map eHead ([] ++ a1))) :: (48, ⟨b177, 1, 210, true, [[.al 1000768 b175 c176 0 v174.length 115, .al 1000769 b4 c5 0 ([] ++ a1).length 130]]⟩) :: J) t o) ?_ ?_ ?_
  ·exact ⟨_, _, _, _, _, _, hq, pin, pinh⟩
  ·rintro k178 t o hlt ⟨v174, b175, c176, b4, c5, b177, h, pq⟩
   refine pn pq ?_
   rw [gl_al9_4] at h
   exact cls
  rintro x179 l180 k178 t o hlt hx184 hw hd ⟨v174, b175, c176, b4, c5, b177, h, pq⟩
  refine pn pq ?_
  rw [gl_al9_4] at h
  try (refine gx ?_; intros; rename_i h)
  obtain ⟨hf, h⟩ := gd h
  obtain ⟨q201, hq, h⟩ := bnd h
  refine w_lastK [4, 6, 8, 23, 24, 25] [1000512, 1000513, 32, 1000768, 1000769, 48, 64] (fun K J t o => ∃ q201_, q201 = .inr q201_ ∧ PP K J t o) ?_ ?_
  ·have ho2 := h
   refine w_lpL (xs := x179.up) [4, 6, 7, 8, 23, 24, 25, 31, 32] [1000512, 1000513, 32, 1000768, 1000769, 48, 64] 0 hf (fun K J l205 k203 t o => gl_al9_5 k178 l205 k203  = some q201 ∧ PP ((33, .v (.int .i64 (k203 : Int))) :: K) J t o) ?_ ?_ ?_
   ·exact ⟨hq, pin, pinh⟩
   ·rintro k203 t o hlt ⟨h, pq⟩
    refine pn pq ?_
    rw [gl_al9_5] at h
    exact cls
   rintro x204 l205 k203 t o hlt hx209 hw hd ⟨h, pq⟩
   refine pn pq ?_
   rw [gl_al9_5] at h
   exact cls
  rintro t o ⟨q201, rfl, pq⟩
  refine pnq pq ?_
  try (refine gx ?_; intros; rename_i h)
  obtain ⟨q219, hq, h⟩ := bnd h
  refine w_cutK [4, 6, 8, 23, 24, 25] [1000512, 1000513, 32, 1000768, 1000769, 48, 64] (fun K J t o => PP ((11, .ro (List.map (eFeat false) q219)) :: K) J t o) ?_ ?_
  ·have h := hq
   exact cls
  rintro t o pq
  refine pn pq ?_
  exact cls
 rintro t o ⟨q172, b238, c239, b4, c5, b240, rfl, pq⟩
 refine pnq pq ?_
 exact cls
theorem d_ee9 : OkC [c_ej9, c_co9] c_ee9 if_ee9 ks_ee9 := by
 refine ok fun G H ⟨a0, a1⟩ r h => ?_
 refine st1 fun bs t o => ?_
 dsimp only [gf_ee9] at h
 exact cls
theorem d_ck9 : OkC [c_cw9, c_cl9, c_ee9, c_dy9, c_dw9, c_dv9] c_ck9 if_ck9 ks_ck9 := by
 refine ok fun G H ⟨a0, a1⟩ r h => ?_
 refine st1 fun bs t o => ?_
 dsimp only [gf_ck9] at h
 refine gx fun x1 h2 x3 h4 => ?_; intros; rename_i h
 obtain ⟨hf, h⟩ := gd h
 obtain ⟨q48, hq, h⟩ := bnd h
 refine w_lastK [] [] (fun K J t o => ∃ q48_, q48 = .inr q48_ ∧ PP ((6, .ro (List.map (eFeat false) q48_)) :: K) J t o) ?_ ?_
 ·have ho1 := h
  refine w_lpL (xs := a1) [0, 1] [] 0 hf (fun K J l53 k51 t o => ∃ v49, gl_ck9_1 a0 l53 k51 v49 = some q48 ∧ PP ((6, .ro (List.map (eFeat false) v49)) :: (7, .v (.int .i64 (k51 : Int))) :: K) J t o) ?_ ?_ ?_
  ·exact ⟨_, hq, pin, pinh⟩
  ·rintro k51 t o hlt ⟨v49, h, pq⟩
   refine pn pq ?_
   rw [gl_ck9_1] at h
   exact cls
  rintro x52 l53 k51 t o hlt hx57 hw hd ⟨v49, h, pq⟩
  refine pn pq ?_
  rw [gl_ck9_1] at h
  exact cls
 rintro t o ⟨q48, rfl, pq⟩
 refine pnq pq ?_
 exact cls
theorem d_fa9 : OkC [] c_fa9 if_fa9 ks_fa9 := by
 refine ok fun G H ⟨a0, a1⟩ r h => ?_
 refine st1 fun bs t o => ?_
 dsimp only [gf_fa9] at h
 exact cls
theorem d_cq9 : OkC [c_ew9, c_ck9, c_ct9, c_fa9] c_cq9 if_cq9 ks_cq9 := by
 refine ok fun G H ⟨a0, a1⟩ r h => ?_
 have H_fa9 := H _ (.tail _ (.tail _ (.tail _ (.head _))))
 replace H := hpre 3 H
 refine st1 fun bs t o => ?_
 dsimp only [gf_cq9] at h
 refine gx fun h5 => ?_; intros; rename_i h
 obtain ⟨hf, h⟩ := gd h
 obtain ⟨q78, hq, h⟩ := bnd h
 refine w_lastK [4] [1000512, 1000513, 32] (fun K J t o => ∃ q78_ b115 c116 b118 c119 b120, q78 = .inr q78_ ∧ PP ((6, .ptr 48 b120 210 0 0) :: K) ((1000768, ent b115 c116 115 (List.map (eCommit false) q78_.1)) :: (1000769, ent b118 c119 130 (List.map eHead q78_.2)) :: (48, ⟨b120, 1, 210, true, [[.al 1000768 b115 c116 0 q78_.1.length 115, .al 1000769 b118 c119 0 q78_.2.length 130]]⟩) :: J) t o) ?_ ?_
 ·have ho1 := h
  refine w_lpL (xs := a0) [0, 4] [1000512, 1000513, 32] 0 hf (fun K J l89 k87 t o => ∃ v80 v83 b81 c82 b84 c85 b86, gl_cq9_1 l89 k87 v80 v83 = some q78 ∧ PP ((6, .ptr 48 b86 210 0 0) :: (7, .v (.int .i64 (k87 : Int))) :: K) ((1000768, ent b81 c82 115 (List.map (eCommit false) v80)) :: (1000769, ent b84 c85 130 (List.map eHead v83)) :: (48, ⟨b86, 1, 210, true, [[.al 1000768 b81 c82 0 v80.length 115, .al 1000769 b84 c85 0 v83.length 130]]⟩) :: J) t o) ?_ ?_ ?_
  ·exact ⟨_, _, _, _, _, _, _, hq, pin, pinh⟩
  ·rintro k87 t o hlt ⟨v80, v83, b81, c82, b84, c85, b86, h, pq⟩
   refine pn pq ?_
   rw [gl_cq9_1] at h
   exact cls
  rintro x88 l89 k87 t o hlt hx93 hw hd ⟨v80, v83, b81, c82, b84, c85, b86, h, pq⟩
  refine pn pq ?_
  rw [gl_cq9_1] at h
  refine gx fun x96 h97 h101 h105 => ?_; intros; rename_i h
  obtain ⟨x106, h107, h⟩ := bnd h
  have L107 := l_fa9 h107; (try dsimp only at L107); (first | replace L107 := And.intro L107.1.symm L107.2.symm | replace L107 := L107.symm); (try obtain ⟨L107, M107⟩ := L107); refine c_callg (c := c_fa9) ((⟨(v80 ++ ([(⟨([] ++ x88.up), [], x88.note⟩ : Commit)] : (List Commit))), v83⟩ : Repo), (k87 : Int)) H_fa9 h107 fun ch => ?_
  refine gx fun x108 h109 x112 h113 => ?_; intros; rename_i h
  refine c_ste (f := (eCommit false)) x106.2.commits (⟨x112.up, x108.1, x112.note⟩ : Commit) (idx_get h113).2 ?_
  exact cls
 rintro t o ⟨q78, b115, c116, b118, c119, b120, rfl, pq⟩
 refine pnq pq ?_
 exact cls
theorem d_ad9 : OkC [c_ax9, c_bh9, c_bl9, c_aa9] c_ad9 if_ad9 ks_ad9 := by
 refine ok fun G H ⟨a0, a1⟩ r h => ?_
 refine st1 fun bs t o => ?_
 dsimp only [gf_ad9] at h
 refine gx fun x2 h3 x4 h5 x7 h8 => ?_; intros; rename_i h
 obtain ⟨hf, h⟩ := gd h
 obtain ⟨q111, hq, h⟩ := bnd h
 refine w_lastK [] [] (fun K J t o => ∃ b156 c157, PP ((5, .ref 72 b156 c157 0 q111.length 155) :: K) ((72, ent b156 c157 155 (List.map (eChange true) q111)) :: J) t o) ?_ ?_
 ·refine w_lpL (xs := x7) [0, 1, 22, 23] [176] 0 hf (fun K J l118 k116 t o => ∃ v113 b114 c115, gl_ad9_1 a0 a1 l118 k116 v113 = some q111 ∧ PP ((5, .ref 72 b114 c115 0 v113.length 155) :: (24, .v (.int .i64 (k116 : Int))) :: K) ((72, ent b114 c115 155 (List.map (eChange true) v113)) :: J) t o) ?_ ?_ ?_
  ·exact ⟨_, _, _, hq, pin, pinh⟩
  ·rintro k116 t o hlt ⟨v113, b114, c115, h, pq⟩
   refine pn pq ?_
   rw [gl_ad9_1] at h
   exact cls
  rintro x117 l118 k116 t o hlt hx122 hw hd ⟨v113, b114, c115, h, pq⟩
  refine pn pq ?_
  rw [gl_ad9_1] at h
  try (refine gx ?_; intros; rename_i h)
  obtain ⟨q126, hq, h⟩ := bnd h
  refine w_cutK [0, 1, 5, 7, 22, 23, 24] [72, 176] (fun K J t o => ∃ b134 c135 b137 c138 b142, PP ((8, .ptr 64 b142 155 0 0) :: K) ((1001028, ent b134 c135 66 (List.map ePt q126.1)) :: (1001029, ent b137 c138 82 (List.map eTag q126.2.1)) :: (1001033, ent none 0 66 (List.map ePt [])) :: (1001034, ent none 0 82 (List.map eTag [])) :: (64, ⟨b142, 1, 155, true, [[.v (.string x117), .v (.bool q126.2.2.1), .v (.string q126.2.2.2.1), .v (.int .i64 q126.2.2.2.2), .al 1001028 b134 c135 0 q126.1.length 66, .al 1001029 b137 c138 0 q126.2.1.length 82, .v (.bool false), .v (.string (⟨#[]⟩ : Str)), .v (.int .i64 0), .al 1001033 none 0 0 ([] : List Pt).length 66, .al 1001034 none 0 0 ([] : List Tag).length 82]]⟩) :: J) t o) ?_ ?_
  ·have h := hq
   exact cls
  rintro t o ⟨b134, c135, b137, c138, b142, pq⟩
  refine pn pq ?_
  exact cls
 rintro t o ⟨b156, c157, pq⟩
 refine pnq pq ?_
 exact cls
theorem d_ak9 : OkC [c_an9, c_ad9] c_ak9 if_ak9 ks_ak9 := by
 refine ok fun G H a0 r h => ?_
 refine st1 fun bs t o => ?_
 dsimp only [gf_ak9] at h
 refine gx fun x3 h4 => ?_; intros; rename_i h
 obtain ⟨hf, h⟩ := gd h
 obtain ⟨q87, hq, h⟩ := bnd h
 refine w_lastK [] [] (fun K J t o => ∃ b126 c127, PP ((3, .ref 56 b126 c127 0 q87.length 163) :: K) ((56, ent b126 c127 163 (List.map (eEntry true) q87)) :: J) t o) ?_ ?_
 ·refine w_lpL (xs := a0.commits) [1, 13, 14] [8] 0 hf (fun K J l94 k92 t o => ∃ v89 b90 c91, gl_ak9_1 a0 l94 k92 v89 = some q87 ∧ PP ((3, .ref 56 b90 c91 0 v89.length 163) :: (15, .v (.int .i64 (k92 : Int))) :: K) ((56, ent b90 c91 163 (List.map (eEntry true) v89)) :: J) t o) ?_ ?_ ?_
  ·exact ⟨_, _, _, hq, pin, pinh⟩
  ·rintro k92 t o hlt ⟨v89, b90, c91, h, pq⟩
   refine pn pq ?_
   rw [gl_ak9_1] at h
   exact cls
  rintro x93 l94 k92 t o hlt hx98 hw hd ⟨v89, b90, c91, h, pq⟩
  refine pn pq ?_
  rw [gl_ak9_1] at h
  try (refine gx ?_; intros; rename_i h)
  obtain ⟨q107, hq, h⟩ := bnd h
  refine w_cutK [1, 3, 5, 13, 14, 15] [8, 56, 40] (fun K J t o => PP ((6, .ro (List.map (eFeat false) q107)) :: K) J t o) ?_ ?_
  ·have h := hq
   exact cls
  rintro t o pq
  refine pn pq ?_
  exact cls
 rintro t o ⟨b126, c127, pq⟩
 refine pnq pq ?_
 exact cls
end Go.Proofs.AM
