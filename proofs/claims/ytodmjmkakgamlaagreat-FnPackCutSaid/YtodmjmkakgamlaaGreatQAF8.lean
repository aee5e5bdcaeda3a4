/- Lemmas of the proof (QAF8), on an abstract machine. Conditions: none. -/
import Derived.Test.YtodmjmkakgamlaaGreatQAD
set_option linter.unusedVariables false
set_option maxRecDepth 100000
set_option maxHeartbeats 4000000
namespace Go.Proofs.AM
attribute [local irreducible] vwp vstps vstpLs vstp vdo vret kseq kblk kloop kend kcut kloop2 frzV renV shutK pfzV trnV unrV
theorem d_eo9 : OkC [c_eb9, c_cf9, c_cs9, c_dt9] c_eo9 if_eo9 ks_eo9 := by
 refine ok fun G H ⟨a0, g0, g1⟩ r h => ?_
 have H_eb9 := H _ (.head _)
 have H_cf9 := H _ (.tail _ (.head _))
 have H_cs9 := H _ (.tail _ (.tail _ (.head _)))
 have H_dt9 := H _ (.tail _ (.tail _ (.tail _ (.head _))))
 refine st1 fun bs t o => ?_
 dsimp only [gf_eo9] at h
 obtain ⟨x1, h2, h⟩ := bnd h
 refine go ?_;intros
 refine c_callg (c := c_eb9) (a0, g0, g1) H_eb9 h2 fun ch => ?_
 refine go ?_;intros
 refine r_pfz ?_
 obtain ⟨x8, h9, h⟩ := bnd h
 refine go ?_;intros
 refine c_call (c := c_cf9) (x1.1) H_cf9 h9 fun ch => ?_
 refine go ?_;intros
 refine r_pz (f := (eEntry true)) (g := eEntryX) (pf_Entry _) rfl rfl ?_
 refine go ?_;intros
 refine w_cond rfl (fun c => ?_) (fun c => ?_)
 ·replace h := itt h (by first | exact c | (have c2 := c; simp only [List.length_map] at c2; exact c2))
  try rw [c]
  refine go ?_;intros
  cases h
  exact r_endg
 replace h := itf h (by first | exact c | (have c2 := c; simp only [List.length_map] at c2; exact c2))
 try rw [c]
 obtain ⟨x12, h13, h⟩ := bnd h
 refine go ?_;intros
 refine c_callg (c := c_cs9) ((⟨a0.b, x1.2⟩ : Rd), (x8.length : Int), g0, g1) H_cs9 h13 fun ch => ?_
 obtain ⟨q44, h84, h⟩ := bnd h
 refine go ?_;intros
 refine w_cut (fun t o => ∃ b75 c76 b77 c78 b79 b81 c82, Pin t (ovr [(4, .ptr 32 b79 210 0 0), (5, .ref 80 b81 c82 0 q44.1.length 163)] t) ∧ PinH o (ovh [(1000512, ent b75 c76 115 (List.map eCommitX x1.1.commits)), (1000513, ent b77 c78 130 (List.map eHead x1.1.heads)), (32, ⟨b79, 1, 210, true, [[.al 1000512 b75 c76 0 x1.1.commits.length 115, .al 1000513 b77 c78 0 x1.1.heads.length 130]]⟩), (80, ent b81 c82 163 (List.map eEntryX q44.1)), (0, ⟨(bs 0).1, (bs 0).2, 290, true, [[.rw g0 g1 (List.map eU8 a0.b), .v (.int .i64 q44.2)]]⟩)] o)) ?_ ?_
 ·obtain ⟨x45, h46, h84⟩ := bnd h84
  refine go ?_;intros
  refine c_callg (c := c_cs9) ((⟨a0.b, x12.2⟩ : Rd), 24, g0, g1) H_cs9 h46 fun ch => ?_
  obtain ⟨q47, h85, h84⟩ := bnd h84
  refine go ?_;intros
  refine w_cut (fun t o => ∃ b48 c49 b50 c51 b52 b53 c54, Pin t (ovr [(0, .ptr 0 (bs 0).1 290 0 0), (4, .ptr 32 b52 210 0 0), (5, .ref 80 b53 c54 0 x8.length 163), (6, .v (.int .i64 x12.1)), (22, .v (.int .i64 x45.1)), (23, .v (.bool (x45.1 == 0)))] t) ∧ PinH o (ovh [(0, ⟨(bs 0).1, (bs 0).2, 290, true, [[.rw g0 g1 (List.map eU8 a0.b), .v (.int .i64 x45.2)]]⟩), (1000512, ent b48 c49 115 (List.map eCommitX x1.1.commits)), (1000513, ent b50 c51 130 (List.map eHead x1.1.heads)), (32, ⟨b52, 1, 210, true, [[.al 1000512 b48 c49 0 x1.1.commits.length 115, .al 1000513 b50 c51 0 x1.1.heads.length 130]]⟩), (80, ent b53 c54 163 (List.map eEntryX x8))] o)) ?_ ?_
  ·refine go ?_;intros
   cases h85
   exact k_cn ⟨_, _, _, _, _, _, _, pin, pinh⟩
  rintro t o ⟨b48, c49, b50, c51, b52, b53, c54, pq1, pq2⟩
  refine pinned pq1 pq2 ?_
  refine go ?_;intros
  refine w_cond rfl (fun c => ?_) (fun c => ?_)
  ·replace h84 := itt h84 c
   try rw [c]
   refine go ?_;intros
   refine r_frz ?_
   obtain ⟨x55, h56, h84⟩ := bnd h84
   refine go ?_;intros
   refine c_callg (c := c_dt9) ((⟨a0.b, x45.2⟩ : Rd), g0, g1) H_dt9 h56 fun ch => ?_
   refine go ?_;intros
   refine c_fz ?_
   obtain ⟨x59, h60, h84⟩ := bnd h84
   refine go ?_;intros
   refine r_ire (xs := x8) rfl rfl h60 rfl ?_
   refine go ?_;intros
   refine c_ste (f := eEntryX) x8 (⟨x59.up, x59.note, x55.1⟩ : Entry) (idx_get h60).2 ?_
   refine go ?_;intros
   cases h84
   exact k_cn ⟨_, _, _, _, _, _, _, pin, pinh⟩
  replace h84 := itf h84 c
  try rw [c]
  refine go ?_;intros
  refine w_cond rfl (fun c => ?_) (fun c => ?_)
  ·replace h84 := itt h84 c
   try rw [c]
   obtain ⟨x61, h62, h84⟩ := bnd h84
   refine go ?_;intros
   refine r_ire (xs := x8) rfl rfl h62 rfl ?_
   refine go ?_;intros
   refine r_lopg (f := eEntryX) (g := eInt) (xs := x8) (x := x61) (ys := x61.up) (idx_get h62).2 rfl rfl rfl fun b63 c64 => ?_
   obtain ⟨h68, h84⟩ := gd h84
   refine go ?_;intros
   refine r_app (f := eInt) (xs := x61.up) (ys := ([x12.1] : (List Int))) rfl (src_mv rfl rfl (by first | rfl | simp)) rfl rfl (by first | rfl | simp) h68 fun b66 c67 => ?_
   refine go ?_;intros
   refine r_ire (xs := x8) rfl rfl h62 rfl ?_
   refine go ?_;intros
   refine c_stc (f := eEntryX) x8 (⟨(x61.up ++ ([x12.1] : (List Int))), x61.note, x61.diff⟩ : Entry) (idx_get h62).2 ?_
   refine go ?_;intros
   cases h84
   exact k_cn ⟨_, _, _, _, _, _, _, pin, pinh⟩
  replace h84 := itf h84 c
  try rw [c]
  refine go ?_;intros
  refine w_cond rfl (fun c => ?_) (fun c => ?_)
  ·replace h84 := itt h84 c
   try rw [c]
   obtain ⟨x69, h70, h84⟩ := bnd h84
   refine go ?_;intros
   refine r_ire (xs := x8) rfl rfl h70 rfl ?_
   refine go ?_;intros
   refine c_ste (f := eEntryX) x8 (⟨x69.up, (⟨#[]⟩ : Str), x69.diff⟩ : Entry) (idx_get h70).2 ?_
   refine go ?_;intros
   cases h84
   exact k_cn ⟨_, _, _, _, _, _, _, pin, pinh⟩
  replace h84 := itf h84 c
  try rw [c]
  refine go ?_;intros
  refine w_cond rfl (fun c => ?_) (fun c => ?_)
  ·replace h84 := itt h84 c
   try rw [c]
   refine go ?_;intros
   refine r_trn ?_
   obtain ⟨x71, h72, h84⟩ := bnd h84
   refine go ?_;intros
   refine r_slr (xs := x8) h72 rfl rfl rfl rfl (by first | rfl | simp) ?_
   refine go ?_;intros
   refine r_tr (f := eEntryX) h72 rfl rfl rfl ?_
   refine go ?_;intros
   cases h84
   exact k_cn ⟨_, _, _, _, _, _, _, pin, pinh⟩
  replace h84 := itf h84 c
  try rw [c]
  refine go ?_;intros
  refine w_cond rfl (fun c => ?_) (fun c => ?_)
  ·replace h84 := itt h84 c
   try rw [c]
   obtain ⟨x73, h74, h84⟩ := bnd h84
   refine go ?_;intros
   refine r_ire (xs := x8) rfl rfl h74 rfl ?_
   refine go ?_;intros
   refine c_ste (f := eEntryX) x8 (⟨x73.up, x73.note, []⟩ : Entry) (idx_get h74).2 ?_
   refine go ?_;intros
   cases h84
   exact k_cn ⟨_, _, _, _, _, _, _, pin, pinh⟩
  replace h84 := itf h84 c
  try rw [c]
  refine go ?_;intros
  cases h84
  exact k_cn ⟨_, _, _, _, _, _, _, pin, pinh⟩
 rintro t o ⟨b75, c76, b77, c78, b79, b81, c82, pq1, pq2⟩
 refine pinned pq1 pq2 ?_
 refine go ?_;intros
 cases h
 exact r_endg
theorem d_cc9 : OkC [c_cp9, c_eo9] c_cc9 if_cc9 ks_cc9 := by
 refine ok fun G H ⟨a0, g0, g1⟩ r h => ?_
 refine st1 fun bs t o => ?_
 dsimp only [gf_cc9] at h
 exact cls
theorem d_bi9 : OkC [] c_bi9 if_bi9 ks_bi9 := by
 refine ok fun G H ⟨a0, a1, a2⟩ r h => ?_
 refine st1 fun bs t o => ?_
 dsimp only [gf_bi9] at h
 obtain ⟨q, hs, h⟩ := bnd h
 obtain ⟨s0, s1, s2⟩ := slc_le hs
 refine go ?_;intros
 refine r_sl3 rfl rfl rfl rfl rfl hs rfl ?_
 refine go ?_;intros
 refine w_cond rfl (fun c => ?_) (fun c => ?_)
 ·replace h := itt h c
  try rw [c]
  refine go ?_;intros
  cases h
  exact r_endg
 replace h := itf h c
 try rw [c]
 refine go ?_;intros
 refine r_slv0 (j := a1) rfl rfl rfl rfl s0 (by omega) ?_
 refine go ?_;intros
 refine r_slv1 (j := a2) rfl rfl rfl rfl (by omega) s2 ?_
 refine go ?_;intros
 refine r_ain (f := (eFeat false)) (xs := a0) (ys := a0.drop a2.toNat) (i := a1.toNat) (j := a2.toNat) (m := a0.length - a2.toNat) rfl rfl rfl (del_ys a0) (by omega) (by omega) (fun _ => rfl) ?_
 refine go ?_;intros
 refine r_slx2 (i := ((a1.toNat + (a0.length - a2.toNat) : Nat) : Int)) (j := (a0.length : Int)) (rows := List.map (eFeat false) (a0.take a1.toNat ++ a0.drop a2.toNat ++ a0.drop (a1.toNat + (a0.length - a2.toNat)))) rfl rfl rfl rfl rfl (by omega) (by omega) (by simp; omega) ?_
 refine go ?_;intros
 refine r_clr (f := (eFeat false)) (xs := a0.take a1.toNat ++ a0.drop a2.toNat ++ a0.drop (a1.toNat + (a0.length - a2.toNat))) (z0 := (⟨⟨#[]⟩, ⟨0, []⟩, []⟩ : Feat)) rfl rfl rfl (by simp; omega) (fun _ => rfl) ?_
 refine go ?_;intros
 refine r_trn ?_
 refine go ?_;intros
 refine r_trv (f := (eFeat false)) (ys := a0.take a1.toNat ++ a0.drop a2.toNat) (xs := del_xs a0 a1 a2 (⟨⟨#[]⟩, ⟨0, []⟩, []⟩ : Feat)) rfl rfl (del_eq s0 s1 s2) (del_le s0 s1 s2) ?_
 refine go ?_;intros
 cases h
 rw [del_len s0 s1 s2]
 exact r_endg
theorem d_ac9 : OkC [] c_ac9 if_ac9 ks_ac9 := by
 refine ok fun G H ⟨a0, a1⟩ r h => ?_
 refine st1 fun bs t o => ?_
 dsimp only [gf_ac9] at h
 exact cls

theorem d_ab9 : OkC [c_aq9, c_ad9, c_ax9, c_bd9, c_af9, c_ay9, c_bi9, c_au9, c_bz9] c_ab9 if_ab9 ks_ab9 := by
 refine ok fun G H ⟨a0, a1⟩ r h => ?_
 have H_bz9 := H _ (.tail _ (.tail _ (.tail _ (.tail _ (.tail _ (.tail _ (.tail _ (.tail _ (.head _)))))))))
 replace H := hpre 8 H
 refine st1 fun bs t o => ?_
 dsimp only [gf_ab9] at h
 refine gx fun x1 h2 x3 h4 x7 h8 => ?_; intros; rename_i h
 obtain ⟨hf, h⟩ := gd h
 obtain ⟨q168, hq, h⟩ := bnd h
 refine w_lastK [] [] (fun K J t o => ∃ q168_ b232 c233, q168 = .inr q168_ ∧ PP ((6, .ref 2000006 b232 c233 0 q168_.length 100) :: K) ((2000006, ent b232 c233 100 (List.map (eFeat false) q168_)) :: J) t o) ?_ ?_
 ·have ho1 := h
  refine w_lpL (xs := a1) [0, 23, 24] [] 0 hf (fun K J l175 k173 t o => ∃ v170 b171 c172, gl_ac9 a0 l175 k173 v170 = some q168 ∧ PP ((6, .ref 2000006 b171 c172 0 v170.length 100) :: (25, .v (.int .i64 (k173 : Int))) :: K) ((2000006, ent b171 c172 100 (List.map (eFeat false) v170)) :: J) t o) ?_ ?_ ?_
  ·exact ⟨_, _, _, hq, pin, pinh⟩
  ·rintro k173 t o hlt ⟨v170, b171, c172, h, pq⟩
   refine pn pq ?_
   rw [gl_ac9] at h
   exact cls
  rintro x174 l175 k173 t o hlt hx179 hw hd ⟨v170, b171, c172, h, pq⟩
  refine pn pq ?_
  rw [gl_ac9] at h
  try (refine gx ?_; intros; rename_i h)
  obtain ⟨q183, hq, h⟩ := bnd h
  refine w_cutK [0, 6, 8, 23, 24, 25] [2000006, 64] (fun K J t o => ∃ b193 c194 b196 c197 b200, PP ((9, .ptr 72 b200 100 0 0) :: (10, .v (.bool q183.1)) :: K) ((1001154, ent b193 c194 66 (List.map ePt q183.2.1)) :: (1001155, ent b196 c197 82 (List.map eTag q183.2.2.1)) :: (72, ⟨b200, 1, 100, true, [[.v (.string q183.2.2.2.1), .v (.int .i64 q183.2.2.2.2), .al 1001154 b193 c194 0 q183.2.1.length 66, .al 1001155 b196 c197 0 q183.2.2.1.length 82]]⟩) :: J) t o) ?_ ?_
  ·have h := hq
   exact cls
  rintro t o ⟨b193, c194, b196, c197, b200, pq⟩
  refine pn pq ?_
  exact cls
 rintro t o ⟨q168, b232, c233, rfl, pq⟩
 refine pnq pq ?_
 try (refine gx ?_; intros; rename_i h)
 obtain ⟨x234, h235, h⟩ := bnd h
 have L235 := l_bz9 h235; (try dsimp only at L235); refine c_callg (c := c_bz9) (q168) H_bz9 h235 fun ch => ?_
 exact cls
theorem d_ag9 : OkC [c_bf9, c_ab9, c_ah9, c_av9] c_ag9 if_ag9 ks_ag9 := by
 refine ok fun G H ⟨a0, a1⟩ r h => ?_
 refine st1 fun bs t o => ?_
 dsimp only [gf_ag9] at h
 refine gx fun h6 => ?_; intros; rename_i h
 obtain ⟨hf, h⟩ := gd h
 obtain ⟨q172, hq, h⟩ := bnd h
 refine w_lastK [4] [1000512, 1000513, 32] (fun K J t o => ∃ q172_ b238 c239 b4 c5 b240, q172 = .inr q172_ ∧ PP ((6, .ptr 48 b240 210 0 0) :: K) ((1000768, ent b238 c239 115 (List.map (eCommit false) q172_)) :: (1000769, ent b4 c5 130 (List.map eHead ([] ++ a1))) :: (48, ⟨b240, 1, 210, true, [[.al 1000768 b238 c239 0 q172_.length 115, .al 1000769 b4 c5 0 ([] ++ a1).length 130]]⟩) :: J) t o) ?_ ?_
 ·have ho1 := h
  refine w_lpL (xs := a0) [4, 23, 24] [1000512, 1000513, 32] 0 hf (fun K J l180 k178 t o => ∃ v174 b175 c176 b4 c5 b177, gl_ag9_4 l180 k178 v174 = some q172 ∧ PP ((6, .ptr 48 b177 210 0 0) :: (25, .v (.int .i64 (k178 : Int))) :: K) ((1000768, ent b175 c176 115 (List.map (eCommit false) v174)) :: (1000769, ent b4 c5 130 (List.map eHead ([] ++ a1))) :: (48, ⟨b177, 1, 210, true, [[.al 1000768 b175 c176 0 v174.length 115, .al 1000769 b4 c5 0 ([] ++ a1).length 130]]⟩) :: J) t o) ?_ ?_ ?_
  ·exact ⟨_, _, _, _, _, _, hq, pin, pinh⟩
  ·rintro k178 t o hlt ⟨v174, b175, c176, b4, c5, b177, h, pq⟩
   refine pn pq ?_
   rw [gl_ag9_4] at h
   exact cls
  rintro x179 l180 k178 t o hlt hx184 hw hd ⟨v174, b175, c176, b4, c5, b177, h, pq⟩
  refine pn pq ?_
  rw [gl_ag9_4] at h
  try (refine gx ?_; intros; rename_i h)
  obtain ⟨hf, h⟩ := gd h
  obtain ⟨q201, hq, h⟩ := bnd h
  refine w_lastK [4, 6, 8, 23, 24, 25] [1000512, 1000513, 32, 1000768, 1000769, 48, 64] (fun K J t o => ∃ q201_, q201 = .inr q201_ ∧ PP K J t o) ?_ ?_
  ·have ho2 := h
   refine w_lpL (xs := x179.up) [4, 6, 7, 8, 23, 24, 25, 31, 32] [1000512, 1000513, 32, 1000768, 1000769, 48, 64] 0 hf (fun K J l205 k203 t o => gl_ag9_5 k178 l205 k203  = some q201 ∧ PP ((33, .v (.int .i64 (k203 : Int))) :: K) J t o) ?_ ?_ ?_
   ·exact ⟨hq, pin, pinh⟩
   ·rintro k203 t o hlt ⟨h, pq⟩
    refine pn pq ?_
    rw [gl_ag9_5] at h
    exact cls
   rintro x204 l205 k203 t o hlt hx209 hw hd ⟨h, pq⟩
   refine pn pq ?_
   rw [gl_ag9_5] at h
   exact cls
  rintro t o ⟨q201, rfl, pq⟩
  refine pnq pq ?_
  try (refine gx ?_; intros; rename_i h)
  obtain ⟨q219, hq, h⟩ := bnd h
  refine w_cutK [4, 6, 8, 23, 24, 25] [1000512, 1000513, 32, 1000768, 1000769, 48, 64] (fun K J t o => PP ((11, .ro (List.map (eFeat false) q219)) :: K) J t o) ?_ ?_
  ·have h := hq
   exact cls
  rintro t o pq
  refine pn pq ?_
  exact cls
 rintro t o ⟨q172, b238, c239, b4, c5, b240, rfl, pq⟩
 refine pnq pq ?_
 exact cls
end Go.Proofs.AM
