/- Lemmas of the proof (TJF8), on an abstract machine. Conditions: none. -/
import Derived.Test.YtnnfdbdheoajgabGreatTJD
set_option linter.unusedVariables false
set_option linter.unusedSimpArgs false
set_option maxRecDepth 100000
set_option maxHeartbeats 4000000
namespace Go.Proofs.AM
attribute [local irreducible] vwp vstps vstpLs vstp vdo vret kseq kblk kloop kend kcut kloop2 frzV renV shutK pfzV trnV unrV
theorem d_ag9 : OkC [c_ai9] c_ag9 if_ag9 ks_ag9 := by
 refine ok fun G H ⟨a0, a1, a2⟩ r h => ?_
 refine st1 fun bs t o => ?_
 dsimp only [gf_ag9] at h
 exact cls
theorem d_bi9 : OkC [c_bo9] c_bi9 if_bh9 ks_bh9 := by
 refine ok fun G H ⟨a0, a1, a2⟩ r h => ?_
 have H_bo9 := H _ (.head _)
 replace H := hpre 0 H
 refine st1 fun bs t o => ?_
 dsimp only [gf_bi9] at h
 try (refine gx ?_; intros; rename_i h)
 obtain ⟨q5, hq, h⟩ := bnd h
 refine w_cutK [3, 4, 5, 6, 8] [32, 40, 48, 1001027, 1001028, 64] (fun K J t o => PP ((10, .v (.bool q5)) :: K) J t o) ?_ ?_
 ·have h := hq
  try (refine gx ?_; intros; rename_i h)
  obtain ⟨x6, h7, h⟩ := bnd h
  refine c_calld (c := c_bo9) (a1, a0) H_bo9 h7 fun ch => ?_
  exact cls
 rintro t o pq
 refine pn pq ?_
 try (refine gx ?_; intros; rename_i h)
 obtain ⟨x9, h10, h⟩ := bnd h
 refine c_calld (c := c_bo9) (a2, a0) H_bo9 h10 fun ch => ?_
 try (refine gx ?_; intros; rename_i h)
 obtain ⟨x11, h12, h⟩ := bnd h
 refine c_calld (c := c_bo9) (a1, a2) H_bo9 h12 fun ch => ?_
 exact cls
theorem d_av9 : OkC [c_aw9, c_be9, c_bq9, c_bi9, c_aa9, c_az9] c_av9 if_av9 ks_av9 := by
 refine ok fun G H ⟨a0, a1, a2⟩ r h => ?_
 refine st1 fun bs t o => ?_
 dsimp only [gf_av9] at h
 refine gx fun x3 h4 x5 h6 x7 h8 x10 h11 => ?_; intros; rename_i h
 obtain ⟨hf, h⟩ := gd h
 obtain ⟨q714, hq, h⟩ := bnd h
 refine w_lastK [] [] (fun K J t o => ∃ b961 c962 b964 c965, PP ((9, .ref 176 b961 c962 0 q714.1.length 178) :: (10, .ref 184 b964 c965 0 q714.2.length 100) :: K) ((176, ent b961 c962 178 (List.map eClash q714.1)) :: (184, ent b964 c965 100 (List.map (eFeat true) q714.2)) :: J) t o) ?_ ?_
 ·refine w_lpL (xs := x10) [0, 1, 2, 43, 44] [344] 0 hf (fun K J l724 k722 t o => ∃ v716 v719 b717 c718 b720 c721, gl_av9_7 a0 a1 a2 l724 k722 v716 v719 = some q714 ∧ PP ((9, .ref 176 b717 c718 0 v716.length 178) :: (10, .ref 184 b720 c721 0 v719.length 100) :: (45, .v (.int .i64 (k722 : Int))) :: K) ((176, ent b717 c718 178 (List.map eClash v716)) :: (184, ent b720 c721 100 (List.map (eFeat true) v719)) :: J) t o) ?_ ?_ ?_
  ·exact ⟨_, _, _, _, _, _, hq, pin, pinh⟩
  ·rintro k722 t o hlt ⟨v716, v719, b717, c718, b720, c721, h, pq⟩
   refine pn pq ?_
   rw [gl_av9_7] at h
   exact cls
  rintro x723 l724 k722 t o hlt hx728 hw hd ⟨v716, v719, b717, c718, b720, c721, h, pq⟩
  refine pn pq ?_
  rw [gl_av9_7] at h
  try (refine gx ?_; intros; rename_i h)
  obtain ⟨q731, hq, h⟩ := bnd h
  refine w_cutK [0, 1, 2, 9, 10, 12, 43, 44, 45] [176, 184, 344] (fun K J t o => ∃ b758 b764 b770, PP ((13, .ptr 104 b758 325 0 0) :: (14, .ptr 112 b764 325 0 0) :: (15, .ptr 120 b770 325 0 0) :: K) ((104, ⟨b758, 1, 325, true, [[.v (.bool q731.1), .v (.string q731.2.1), .v (.int .i64 q731.2.2.1), .sl false 2 (List.map ePt q731.2.2.2.1), .sl false 2 (List.map eTag q731.2.2.2.2.1)]]⟩) :: (112, ⟨b764, 1, 325, true, [[.v (.bool q731.2.2.2.2.2.1), .v (.string q731.2.2.2.2.2.2.1), .v (.int .i64 q731.2.2.2.2.2.2.2.1), .sl false 2 (List.map ePt q731.2.2.2.2.2.2.2.2.1), .sl false 2 (List.map eTag q731.2.2.2.2.2.2.2.2.2.1)]]⟩) :: (120, ⟨b770, 1, 325, true, [[.v (.bool q731.2.2.2.2.2.2.2.2.2.2.1), .v (.string q731.2.2.2.2.2.2.2.2.2.2.2.1), .v (.int .i64 q731.2.2.2.2.2.2.2.2.2.2.2.2.1), .sl false 2 (List.map ePt q731.2.2.2.2.2.2.2.2.2.2.2.2.2.1), .sl false 2 (List.map eTag q731.2.2.2.2.2.2.2.2.2.2.2.2.2.2)]]⟩) :: J) t o) ?_ ?_
  ·have h := hq
   exact cls
  rintro t o ⟨b758, b764, b770, pq⟩
  refine pn pq ?_
  refine gx fun x771 h772 => ?_; intros; rename_i h
  obtain ⟨q857, hq, h⟩ := bnd h
  refine w_cutK [0, 1, 2, 10, 43, 44, 45] [184, 344] (fun K J t o => ∃ b942 c943 b949, PP ((9, .ref 176 b942 c943 0 q857.1.length 178) :: (16, .ptr 128 b949 325 0 0) :: K) ((176, ent b942 c943 178 (List.map eClash q857.1)) :: (128, ⟨b949, 1, 325, true, [[.v (.bool q857.2.1), .v (.string q857.2.2.1), .v (.int .i64 q857.2.2.2.1), .sl false 2 (List.map ePt q857.2.2.2.2.1), .sl false 2 (List.map eTag q857.2.2.2.2.2)]]⟩) :: J) t o) ?_ ?_
  ·have h := hq
   try (refine gx ?_; intros; rename_i h)
   refine cnds h rfl rfl (fun h c => ?_) fun h c => ?_
   ·try rw [c]
    try (refine gx ?_; intros; rename_i h)
    obtain ⟨q858, hq, h⟩ := bnd h
    refine w_cutK [0, 1, 2, 9, 10, 12, 14, 15, 43, 44, 45] [176, 184, 112, 120, 344] (fun K J t o => ∃ b859, PP ((16, .ptr 128 b859 325 0 0) :: K) ((128, ⟨b859, 1, 325, true, [[.v (.bool q731.2.2.2.2.2.1), .v (.string q731.2.2.2.2.2.2.1), .v (.int .i64 q731.2.2.2.2.2.2.2.1), .sl false 2 (List.map ePt q731.2.2.2.2.2.2.2.2.1), .sl false 2 (List.map eTag q731.2.2.2.2.2.2.2.2.2.1)]]⟩) :: J) t o) ?_ ?_
    ·have h := hq
     exact cls
    rintro t o ⟨b859, pq⟩
    refine pn pq ?_
    exact cls
   try rw [c]
   try (refine gx ?_; intros; rename_i h)
   refine cnd h rfl rfl (fun h c => ?_) fun h c => ?_
   ·try rw [c]
    try (refine gx ?_; intros; rename_i h)
    obtain ⟨q868, hq, h⟩ := bnd h
    refine w_cutK [0, 1, 2, 9, 10, 12, 14, 15, 43, 44, 45, 97, 98, 99] [176, 184, 112, 120, 344] (fun K J t o => ∃ b869, PP ((16, .ptr 128 b869 325 0 0) :: K) ((128, ⟨b869, 1, 325, true, [[.v (.bool q731.2.2.2.2.2.1), .v (.string q731.2.2.2.2.2.2.1), .v (.int .i64 q731.2.2.2.2.2.2.2.1), .sl false 2 (List.map ePt q731.2.2.2.2.2.2.2.2.1), .sl false 2 (List.map eTag q731.2.2.2.2.2.2.2.2.2.1)]]⟩) :: J) t o) ?_ ?_
    ·have h := hq
     exact cls
    rintro t o ⟨b869, pq⟩
    refine pn pq ?_
    exact cls
   try rw [c]
   try (refine gx ?_; intros; rename_i h)
   obtain ⟨q882, hq, h⟩ := bnd h
   refine w_cutK [0, 1, 2, 9, 10, 12, 16, 43, 44, 45, 97, 98, 99] [176, 184, 128, 344, 120] (fun K J t o => ∃ b897, PP ((18, .ptr 144 b897 100 0 0) :: (19, .ro (List.map eStr q882.1)) :: K) ((144, ⟨b897, 1, 100, true, [[.v (.string q882.2.1), .v (.int .i64 q882.2.2.1), .sl false 2 (List.map ePt q882.2.2.2.1), .sl false 2 (List.map eTag q882.2.2.2.2)]]⟩) :: J) t o) ?_ ?_
   ·have h := hq
    exact cls
   rintro t o ⟨b897, pq⟩
   refine pn pq ?_
   try (refine gx ?_; intros; rename_i h)
   obtain ⟨hf, h⟩ := gd h
   obtain ⟨q920, hq, h⟩ := bnd h
   refine w_lastK [0, 1, 2, 10, 16, 43, 44, 45, 97, 98, 99] [184, 128, 344, 120] (fun K J t o => ∃ b939 c940, PP ((9, .ref 176 b939 c940 0 q920.length 178) :: K) ((176, ent b939 c940 178 (List.map eClash q920)) :: J) t o) ?_ ?_
   ·refine w_lpL (xs := q882.1) [0, 1, 2, 10, 12, 16, 43, 44, 45, 77, 78, 97, 98, 99] [184, 128, 344, 120] 0 hf (fun K J l927 k925 t o => ∃ v922 b923 c924, gl_av9_9 x723 l927 k925 v922 = some q920 ∧ PP ((9, .ref 176 b923 c924 0 v922.length 178) :: (79, .v (.int .i64 (k925 : Int))) :: K) ((176, ent b923 c924 178 (List.map eClash v922)) :: J) t o) ?_ ?_ ?_
    ·exact ⟨_, _, _, hq, pin, pinh⟩
    ·rintro k925 t o hlt ⟨v922, b923, c924, h, pq⟩
     refine pn pq ?_
     rw [gl_av9_9] at h
     exact cls
    rintro x926 l927 k925 t o hlt hx931 hw hd ⟨v922, b923, c924, h, pq⟩
    refine pn pq ?_
    rw [gl_av9_9] at h
    exact cls
   rintro t o ⟨b939, c940, pq⟩
   refine pnq pq ?_
   exact cls
  rintro t o ⟨b942, c943, b949, pq⟩
  refine pn pq ?_
  exact cls
 rintro t o ⟨b961, c962, b964, c965, pq⟩
 refine pnq pq ?_
 exact cls
theorem d_ah9 : OkC [c_ag9, c_av9] c_ah9 if_ah9 ks_ah9 := by
 refine ok fun G H ⟨a0, a1, a2⟩ r h => ?_
 refine st1 fun bs t o => ?_
 dsimp only [gf_ah9] at h
 exact cls
theorem d_cd9 : OkC [] c_cd9 if_cd9 ks_cd9 := by
 refine ok fun G H ⟨a0, a1⟩ r h => ?_
 refine st1 fun bs t o => ?_
 dsimp only [gf_cd9] at h
 exact cls
theorem d_ce9 : OkC [c_cd9] c_ce9 if_ce9 ks_ce9 := by
 refine ok fun G H ⟨a0, a1⟩ r h => ?_
 refine st1 fun bs t o => ?_
 dsimp only [gf_ce9] at h
 try (refine gx ?_; intros; rename_i h)
 obtain ⟨hf, h⟩ := gd h
 obtain ⟨q20, hq, h⟩ := bnd h
 refine w_lastK [] [] (fun K J t o => ∃ q20_, q20 = .inr q20_ ∧ PP K J t o) ?_ ?_
 ·have ho1 := h
  refine w_lpL (xs := a0) [0, 1] [] 0 hf (fun K J l24 k22 t o => gl_ce9_1 a1 l24 k22  = some q20 ∧ PP ((5, .v (.int .i64 (k22 : Int))) :: K) J t o) ?_ ?_ ?_
  ·exact ⟨hq, pin, pinh⟩
  ·rintro k22 t o hlt ⟨h, pq⟩
   refine pn pq ?_
   rw [gl_ce9_1] at h
   exact cls
  rintro x23 l24 k22 t o hlt hx28 hw hd ⟨h, pq⟩
  refine pn pq ?_
  rw [gl_ce9_1] at h
  exact cls
 rintro t o ⟨q20, rfl, pq⟩
 refine pnq pq ?_
 exact cls
theorem d_ch9 : OkC [] c_ch9 if_ch9 ks_ch9 := by
 refine ok fun G H ⟨a0, a1⟩ r h => ?_
 refine st1 fun bs t o => ?_
 dsimp only [gf_ch9] at h
 exact cls
theorem d_cg9 : OkC [c_ce9] c_cg9 if_cg9 ks_cg9 := by
 refine ok fun G H ⟨a0, a1⟩ r h => ?_
 refine st1 fun bs t o => ?_
 dsimp only [gf_cg9] at h
 exact cls
theorem d_ci9 : OkC [c_ch9] c_ci9 if_ci9 ks_ci9 := by
 refine ok fun G H ⟨a0, a1⟩ r h => ?_
 refine st1 fun bs t o => ?_
 dsimp only [gf_ci9] at h
 try (refine gx ?_; intros; rename_i h)
 obtain ⟨hf, h⟩ := gd h
 obtain ⟨q20, hq, h⟩ := bnd h
 refine w_lastK [] [] (fun K J t o => ∃ q20_, q20 = .inr q20_ ∧ PP K J t o) ?_ ?_
 ·have ho1 := h
  refine w_lpL (xs := a0) [0, 1] [] 0 hf (fun K J l24 k22 t o => gl_ci9_1 a1 l24 k22  = some q20 ∧ PP ((5, .v (.int .i64 (k22 : Int))) :: K) J t o) ?_ ?_ ?_
  ·exact ⟨hq, pin, pinh⟩
  ·rintro k22 t o hlt ⟨h, pq⟩
   refine pn pq ?_
   rw [gl_ci9_1] at h
   exact cls
  rintro x23 l24 k22 t o hlt hx28 hw hd ⟨h, pq⟩
  refine pn pq ?_
  rw [gl_ci9_1] at h
  exact cls
 rintro t o ⟨q20, rfl, pq⟩
 refine pnq pq ?_
 exact cls
theorem d_by9 : OkC [c_cg9, c_ci9] c_by9 if_by9 ks_by9 := by
 refine ok fun G H ⟨a0, a1⟩ r h => ?_
 refine st1 fun bs t o => ?_
 dsimp only [gf_by9] at h
 exact cls
theorem d_cc9 : OkC [] c_cc9 if_cc9 ks_cc9 := by
 refine ok fun G H ⟨a0, a1⟩ r h => ?_
 refine st1 fun bs t o => ?_
 dsimp only [gf_cc9] at h
 try (refine gx ?_; intros; rename_i h)
 obtain ⟨hf, h⟩ := gd h
 obtain ⟨q14, hq, h⟩ := bnd h
 refine w_lastK [] [] (fun K J t o => ∃ q14_, q14 = .inr q14_ ∧ PP K J t o) ?_ ?_
 ·have ho1 := h
  refine w_lpL (xs := a0) [0, 1] [] 0 hf (fun K J l18 k16 t o => gl_cc9_1 a1 l18 k16  = some q14 ∧ PP ((5, .v (.int .i64 (k16 : Int))) :: K) J t o) ?_ ?_ ?_
  ·exact ⟨hq, pin, pinh⟩
  ·rintro k16 t o hlt ⟨h, pq⟩
   refine pn pq ?_
   rw [gl_cc9_1] at h
   exact cls
  rintro x17 l18 k16 t o hlt hx22 hw hd ⟨h, pq⟩
  refine pn pq ?_
  rw [gl_cc9_1] at h
  exact cls
 rintro t o ⟨q14, rfl, pq⟩
 refine pnq pq ?_
 exact cls
theorem d_bz9 : OkC [c_by9] c_bz9 if_bz9 ks_bz9 := by
 refine ok fun G H ⟨a0, a1⟩ r h => ?_
 refine st1 fun bs t o => ?_
 dsimp only [gf_bz9] at h
 try (refine gx ?_; intros; rename_i h)
 obtain ⟨hf, h⟩ := gd h
 obtain ⟨q20, hq, h⟩ := bnd h
 refine w_lastK [] [] (fun K J t o => ∃ q20_, q20 = .inr q20_ ∧ PP K J t o) ?_ ?_
 ·have ho1 := h
  refine w_lpL (xs := a0) [0, 1] [] 0 hf (fun K J l24 k22 t o => gl_bz9_1 a1 l24 k22  = some q20 ∧ PP ((5, .v (.int .i64 (k22 : Int))) :: K) J t o) ?_ ?_ ?_
  ·exact ⟨hq, pin, pinh⟩
  ·rintro k22 t o hlt ⟨h, pq⟩
   refine pn pq ?_
   rw [gl_bz9_1] at h
   exact cls
  rintro x23 l24 k22 t o hlt hx28 hw hd ⟨h, pq⟩
  refine pn pq ?_
  rw [gl_bz9_1] at h
  exact cls
 rintro t o ⟨q20, rfl, pq⟩
 refine pnq pq ?_
 exact cls
theorem d_bw9 : OkC [c_cc9, c_bz9] c_bw9 if_bw9 ks_bw9 := by
 refine ok fun G H ⟨a0, a1⟩ r h => ?_
 refine st1 fun bs t o => ?_
 dsimp only [gf_bw9] at h
 exact cls
theorem d_ca9 : OkC [] c_ca9 if_ca9 ks_ca9 := by
 refine ok fun G H ⟨a0, a1⟩ r h => ?_
 refine st1 fun bs t o => ?_
 dsimp only [gf_ca9] at h
 exact cls
theorem d_bx9 : OkC [c_bw9] c_bx9 if_bx9 ks_bx9 := by
 refine ok fun G H ⟨a0, a1⟩ r h => ?_
 refine st1 fun bs t o => ?_
 dsimp only [gf_bx9] at h
 try (refine gx ?_; intros; rename_i h)
 obtain ⟨hf, h⟩ := gd h
 obtain ⟨q20, hq, h⟩ := bnd h
 refine w_lastK [] [] (fun K J t o => ∃ q20_, q20 = .inr q20_ ∧ PP K J t o) ?_ ?_
 ·have ho1 := h
  refine w_lpL (xs := a0) [0, 1] [] 0 hf (fun K J l24 k22 t o => gl_bx9_1 a1 l24 k22  = some q20 ∧ PP ((5, .v (.int .i64 (k22 : Int))) :: K) J t o) ?_ ?_ ?_
  ·exact ⟨hq, pin, pinh⟩
  ·rintro k22 t o hlt ⟨h, pq⟩
   refine pn pq ?_
   rw [gl_bx9_1] at h
   exact cls
  rintro x23 l24 k22 t o hlt hx28 hw hd ⟨h, pq⟩
  refine pn pq ?_
  rw [gl_bx9_1] at h
  exact cls
 rintro t o ⟨q20, rfl, pq⟩
 refine pnq pq ?_
 exact cls
theorem d_cb9 : OkC [c_ca9] c_cb9 if_cb9 ks_cb9 := by
 refine ok fun G H ⟨a0, a1⟩ r h => ?_
 refine st1 fun bs t o => ?_
 dsimp only [gf_cb9] at h
 try (refine gx ?_; intros; rename_i h)
 obtain ⟨hf, h⟩ := gd h
 obtain ⟨q20, hq, h⟩ := bnd h
 refine w_lastK [] [] (fun K J t o => ∃ q20_, q20 = .inr q20_ ∧ PP K J t o) ?_ ?_
 ·have ho1 := h
  refine w_lpL (xs := a0) [0, 1] [] 0 hf (fun K J l24 k22 t o => gl_cb9_1 a1 l24 k22  = some q20 ∧ PP ((5, .v (.int .i64 (k22 : Int))) :: K) J t o) ?_ ?_ ?_
  ·exact ⟨hq, pin, pinh⟩
  ·rintro k22 t o hlt ⟨h, pq⟩
   refine pn pq ?_
   rw [gl_cb9_1] at h
   exact cls
  rintro x23 l24 k22 t o hlt hx28 hw hd ⟨h, pq⟩
  refine pn pq ?_
  rw [gl_cb9_1] at h
  exact cls
 rintro t o ⟨q20, rfl, pq⟩
 refine pnq pq ?_
 exact cls
theorem d_bu9 : OkC [] c_bu9 if_bu9 ks_bu9 := by
 refine ok fun G H ⟨a0, a1⟩ r h => ?_
 refine st1 fun bs t o => ?_
 dsimp only [gf_bu9] at h
 exact cls
theorem d_cv9 : OkC [] c_cv9 if_cv9 ks_cv9 := by
 refine ok fun G H a0 r h => ?_
 refine st1 fun bs t o => ?_
 dsimp only [gf_cv9] at h
 try (refine gx ?_; intros; rename_i h)
 obtain ⟨q9, hq, h⟩ := bnd h
 refine w_cutK [] [] (fun K J t o => PP ((3, .v (.string q9)) :: K) J t o) ?_ ?_
 ·refine w_block ?_
  refine w_lpF [] [] (fun K J n12 t o => ∃ v10 v11, gl_cv9_1 n12 v10 v11 = some q9 ∧ PP ((0, .v (.int .i64 v10)) :: (3, .v (.string v11)) :: K) J t o) ?_ ?_
  ·exact ⟨_, _, hq, pin, pinh⟩
  rintro n12 t o ⟨v10, v11, h, pq⟩
  refine pn pq ?_
  cases n12 with
  | zero => rw [gl_cv9_1] at h; cases h
  | succ n12 =>
   rw [gl_cv9_1] at h
   try (refine gx ?_; intros; rename_i h)
   refine r_bytes (xs := ([(IntKind.u8.wrap (IntKind.i64.wrap (48 + (Int.tmod v10 10))))] : (List Int))) rfl rfl (by first | rfl | simp) rfl ?_
   exact cls
 rintro t o pq
 refine pn pq ?_
 exact cls
theorem d_cs9 : OkC [] c_cs9 if_cs9 ks_cs9 := by
 refine ok fun G H ⟨a0, a1⟩ r h => ?_
 refine st1 fun bs t o => ?_
 dsimp only [gf_cs9] at h
 try (refine gx ?_; intros; rename_i h)
 obtain ⟨q16, hq, h⟩ := bnd h
 refine w_lastK [] [] (fun K J t o => PP ((1, .v (.int .i64 q16.1)) :: K) ((0, ent (bs 0).1 (bs 0).2 66 (List.map ePt q16.2)) :: J) t o) ?_ ?_
 ·refine w_lpF [] [] (fun K J n20 t o => ∃ v17 v18 v19, gl_cs9_1 n20 v17 v18 v19 = some q16 ∧ PP ((0, .ref 0 (bs 0).1 (bs 0).2 0 v19.length 66) :: (1, .v (.int .i64 v17)) :: (5, .v (.int .i64 v18)) :: K) ((0, ent (bs 0).1 (bs 0).2 66 (List.map ePt v19)) :: J) t o) ?_ ?_
  ·exact ⟨_, _, _, hq, pin, pinh⟩
  rintro n20 t o ⟨v17, v18, v19, h, pq⟩
  refine pn pq ?_
  cases n20 with
  | zero => rw [gl_cs9_1] at h; cases h
  | succ n20 =>
   rw [gl_cs9_1] at h
   refine gx fun x21 h22 => ?_; intros; rename_i h
   refine c_ste (f := ePt) v19 (⟨v17, x21.y⟩ : Pt) (idx_get h22).2 ?_
   refine gx fun x23 h24 => ?_; intros; rename_i h
   refine c_ste (f := ePt) (List.set v19 v18.toNat (⟨v17, x21.y⟩ : Pt)) (⟨x23.x, (IntKind.i64.wrap (v17 + 1))⟩ : Pt) (idx_get h24).2 ?_
   exact cls
 rintro t o pq
 refine pnq pq ?_
 exact cls
theorem d_cu9 : OkC [c_cv9] c_cu9 if_cu9 ks_cu9 := by
 refine ok fun G H ⟨a0, a1⟩ r h => ?_
 refine st1 fun bs t o => ?_
 dsimp only [gf_cu9] at h
 try (refine gx ?_; intros; rename_i h)
 obtain ⟨q28, hq, h⟩ := bnd h
 refine w_lastK [] [] (fun K J t o => PP ((1, .v (.int .i64 q28.1)) :: K) ((0, ent (bs 0).1 (bs 0).2 82 (List.map eTag q28.2)) :: J) t o) ?_ ?_
 ·refine w_lpF [] [] (fun K J n32 t o => ∃ v29 v30 v31, gl_cu9_1 n32 v29 v30 v31 = some q28 ∧ PP ((0, .ref 0 (bs 0).1 (bs 0).2 0 v31.length 82) :: (1, .v (.int .i64 v29)) :: (5, .v (.int .i64 v30)) :: K) ((0, ent (bs 0).1 (bs 0).2 82 (List.map eTag v31)) :: J) t o) ?_ ?_
  ·exact ⟨_, _, _, hq, pin, pinh⟩
  rintro n32 t o ⟨v29, v30, v31, h, pq⟩
  refine pn pq ?_
  cases n32 with
  | zero => rw [gl_cu9_1] at h; cases h
  | succ n32 =>
   rw [gl_cu9_1] at h
   refine gx fun x33 h34 x35 h36 => ?_; intros; rename_i h
   refine c_ste (f := eTag) v31 (⟨x33, x35.val⟩ : Tag) (idx_get h36).2 ?_
   refine gx fun x37 h38 x39 h40 => ?_; intros; rename_i h
   refine c_ste (f := eTag) (List.set v31 v30.toNat (⟨x33, x35.val⟩ : Tag)) (⟨x39.key, x37⟩ : Tag) (idx_get h40).2 ?_
   exact cls
 rintro t o pq
 refine pnq pq ?_
 exact cls
theorem d_cr9 : OkC [] c_cr9 if_cr9 ks_cr9 := by
 refine ok fun G H ⟨a0, a1⟩ r h => ?_
 refine st1 fun bs t o => ?_
 dsimp only [gf_cr9] at h
 try (refine gx ?_; intros; rename_i h)
 obtain ⟨q12, hq, h⟩ := bnd h
 refine w_lastK [] [] (fun K J t o => PP ((1, .v (.int .i64 q12.1)) :: K) ((0, ent (bs 0).1 (bs 0).2 17 (List.map eInt q12.2)) :: J) t o) ?_ ?_
 ·refine w_lpF [] [] (fun K J n16 t o => ∃ v13 v14 v15, gl_cr9_1 n16 v13 v14 v15 = some q12 ∧ PP ((0, .ref 0 (bs 0).1 (bs 0).2 0 v15.length 17) :: (1, .v (.int .i64 v13)) :: (5, .v (.int .i64 v14)) :: K) ((0, ent (bs 0).1 (bs 0).2 17 (List.map eInt v15)) :: J) t o) ?_ ?_
  ·exact ⟨_, _, _, hq, pin, pinh⟩
  rintro n16 t o ⟨v13, v14, v15, h, pq⟩
  refine pn pq ?_
  cases n16 with
  | zero => rw [gl_cr9_1] at h; cases h
  | succ n16 =>
   rw [gl_cr9_1] at h
   refine gx fun x17 h18 => ?_; intros; rename_i h
   refine c_ste (f := eInt) v15 v13 (idx_get h18).2 ?_
   exact cls
 rintro t o pq
 refine pnq pq ?_
 exact cls
theorem d_cp9 : OkC [c_cv9, c_cs9, c_cu9] c_cp9 if_cp9 ks_cp9 := by
 refine ok fun G H ⟨a0, a1⟩ r h => ?_
 have H_cs9 := H _ (.tail _ (.head _))
 have H_cu9 := H _ (.tail _ (.tail _ (.head _)))
 replace H := hpre 1 H
 refine st1 fun bs t o => ?_
 dsimp only [gf_cp9] at h
 try (refine gx ?_; intros; rename_i h)
 obtain ⟨q58, hq, h⟩ := bnd h
 refine w_lastK [] [] (fun K J t o => PP ((1, .v (.int .i64 q58.1)) :: K) ((0, ent (bs 0).1 (bs 0).2 100 (List.map (eFeat true) q58.2)) :: J) t o) ?_ ?_
 ·refine w_lpF [] [] (fun K J n62 t o => ∃ v59 v60 v61, gl_cp9_1 n62 v59 v60 v61 = some q58 ∧ PP ((0, .ref 0 (bs 0).1 (bs 0).2 0 v61.length 100) :: (1, .v (.int .i64 v59)) :: (5, .v (.int .i64 v60)) :: K) ((0, ent (bs 0).1 (bs 0).2 100 (List.map (eFeat true) v61)) :: J) t o) ?_ ?_
  ·exact ⟨_, _, _, hq, pin, pinh⟩
  rintro n62 t o ⟨v59, v60, v61, h, pq⟩
  refine pn pq ?_
  cases n62 with
  | zero => rw [gl_cp9_1] at h; cases h
  | succ n62 =>
   rw [gl_cp9_1] at h
   refine gx fun x63 h64 x65 h66 => ?_; intros; rename_i h
   refine c_ste (f := (eFeat true)) v61 (⟨x63, x65.shape, x65.tags⟩ : Feat) (idx_get h66).2 ?_
   refine gx fun x67 h68 => ?_; intros; rename_i h
   refine c_ste (f := (eFeat true)) (List.set v61 v60.toNat (⟨x63, x65.shape, x65.tags⟩ : Feat)) (⟨x67.id, ⟨(IntKind.i64.wrap (v59 + 1)), x67.shape.pts⟩, x67.tags⟩ : Feat) (idx_get h68).2 ?_
   refine gx fun x69 h70 => ?_; intros; rename_i h
   refine r_lopg (f := (eFeat true)) (g := ePt) (xs := (List.set (List.set v61 v60.toNat (⟨x63, x65.shape, x65.tags⟩ : Feat)) v60.toNat (⟨x67.id, ⟨(IntKind.i64.wrap (v59 + 1)), x67.shape.pts⟩, x67.tags⟩ : Feat))) (x := x69) (ys := x69.shape.pts) (idx_get h70).2 rfl rfl rfl fun b71 c72 => ?_
   try (refine gx ?_; intros; rename_i h)
   obtain ⟨x73, h74, h⟩ := bnd h
   have L74 := l_cs9 h74; (try dsimp only at L74); (first | replace L74 := And.intro L74.1.symm L74.2.symm | replace L74 := L74.symm); (try obtain ⟨L74, M74⟩ := L74); refine c_callg (c := c_cs9) (x69.shape.pts, (IntKind.i64.wrap ((IntKind.i64.wrap (v59 + 1)) + 1))) H_cs9 h74 fun ch => ?_
   try (refine gx ?_; intros; rename_i h)
   refine c_shg (f := (eFeat true)) (⟨x69.id, ⟨x69.shape.kind, x73.2⟩, x69.tags⟩ : Feat) (idx_get h70).2 ?_
   refine gx fun x75 h76 => ?_; intros; rename_i h
   refine r_lopg (f := (eFeat true)) (g := eTag) (xs := (List.set (List.set (List.set v61 v60.toNat (⟨x63, x65.shape, x65.tags⟩ : Feat)) v60.toNat (⟨x67.id, ⟨(IntKind.i64.wrap (v59 + 1)), x67.shape.pts⟩, x67.tags⟩ : Feat)) v60.toNat (⟨x69.id, ⟨x69.shape.kind, x73.2⟩, x69.tags⟩ : Feat))) (x := x75) (ys := x75.tags) (idx_get h76).2 rfl rfl rfl fun b77 c78 => ?_
   try (refine gx ?_; intros; rename_i h)
   obtain ⟨x79, h80, h⟩ := bnd h
   have L80 := l_cu9 h80; (try dsimp only at L80); (first | replace L80 := And.intro L80.1.symm L80.2.symm | replace L80 := L80.symm); (try obtain ⟨L80, M80⟩ := L80); refine c_callg (c := c_cu9) (x75.tags, x73.1) H_cu9 h80 fun ch => ?_
   try (refine gx ?_; intros; rename_i h)
   refine c_shg (f := (eFeat true)) (⟨x75.id, x75.shape, x79.2⟩ : Feat) (idx_get h76).2 ?_
   exact cls
 rintro t o pq
 refine pnq pq ?_
 exact cls
theorem d_co9 : OkC [c_cv9, c_cr9, c_cp9] c_co9 if_co9 ks_co9 := by
 refine ok fun G H ⟨a0, a1⟩ r h => ?_
 have H_cr9 := H _ (.tail _ (.head _))
 have H_cp9 := H _ (.tail _ (.tail _ (.head _)))
 replace H := hpre 1 H
 refine st1 fun bs t o => ?_
 dsimp only [gf_co9] at h
 try (refine gx ?_; intros; rename_i h)
 obtain ⟨q52, hq, h⟩ := bnd h
 refine w_lastK [] [] (fun K J t o => PP ((1, .v (.int .i64 q52.1)) :: K) ((0, ent (bs 0).1 (bs 0).2 115 (List.map (eCommit true) q52.2)) :: J) t o) ?_ ?_
 ·refine w_lpF [] [] (fun K J n56 t o => ∃ v53 v54 v55, gl_co9_1 n56 v53 v54 v55 = some q52 ∧ PP ((0, .ref 0 (bs 0).1 (bs 0).2 0 v55.length 115) :: (1, .v (.int .i64 v53)) :: (5, .v (.int .i64 v54)) :: K) ((0, ent (bs 0).1 (bs 0).2 115 (List.map (eCommit true) v55)) :: J) t o) ?_ ?_
  ·exact ⟨_, _, _, hq, pin, pinh⟩
  rintro n56 t o ⟨v53, v54, v55, h, pq⟩
  refine pn pq ?_
  cases n56 with
  | zero => rw [gl_co9_1] at h; cases h
  | succ n56 =>
   rw [gl_co9_1] at h
   refine gx fun x57 h58 => ?_; intros; rename_i h
   refine r_lopg (f := (eCommit true)) (g := eInt) (xs := v55) (x := x57) (ys := x57.up) (idx_get h58).2 rfl rfl rfl fun b59 c60 => ?_
   try (refine gx ?_; intros; rename_i h)
   obtain ⟨x61, h62, h⟩ := bnd h
   have L62 := l_cr9 h62; (try dsimp only at L62); (first | replace L62 := And.intro L62.1.symm L62.2.symm | replace L62 := L62.symm); (try obtain ⟨L62, M62⟩ := L62); refine c_callg (c := c_cr9) (x57.up, v53) H_cr9 h62 fun ch => ?_
   try (refine gx ?_; intros; rename_i h)
   refine c_shg (f := (eCommit true)) (⟨x61.2, x57.sheet, x57.note⟩ : Commit) (idx_get h58).2 ?_
   refine gx fun x63 h64 => ?_; intros; rename_i h
   refine r_lopg (f := (eCommit true)) (g := (eFeat true)) (xs := (List.set v55 v54.toNat (⟨x61.2, x57.sheet, x57.note⟩ : Commit))) (x := x63) (ys := x63.sheet) (idx_get h64).2 rfl rfl rfl fun b65 c66 => ?_
   try (refine gx ?_; intros; rename_i h)
   obtain ⟨x67, h68, h⟩ := bnd h
   have L68 := l_cp9 h68; (try dsimp only at L68); (first | replace L68 := And.intro L68.1.symm L68.2.symm | replace L68 := L68.symm); (try obtain ⟨L68, M68⟩ := L68); refine c_callg (c := c_cp9) (x63.sheet, x61.1) H_cp9 h68 fun ch => ?_
   try (refine gx ?_; intros; rename_i h)
   refine c_shg (f := (eCommit true)) (⟨x63.up, x67.2, x63.note⟩ : Commit) (idx_get h64).2 ?_
   refine gx fun x69 h70 x71 h72 => ?_; intros; rename_i h
   refine c_ste (f := (eCommit true)) (List.set (List.set v55 v54.toNat (⟨x61.2, x57.sheet, x57.note⟩ : Commit)) v54.toNat (⟨x63.up, x67.2, x63.note⟩ : Commit)) (⟨x71.up, x71.sheet, x69⟩ : Commit) (idx_get h72).2 ?_
   exact cls
 rintro t o pq
 refine pnq pq ?_
 exact cls
theorem d_cq9 : OkC [c_cv9] c_cq9 if_cq9 ks_cq9 := by
 refine ok fun G H ⟨a0, a1⟩ r h => ?_
 refine st1 fun bs t o => ?_
 dsimp only [gf_cq9] at h
 try (refine gx ?_; intros; rename_i h)
 obtain ⟨q22, hq, h⟩ := bnd h
 refine w_lastK [] [] (fun K J t o => PP ((1, .v (.int .i64 q22.1)) :: K) ((0, ent (bs 0).1 (bs 0).2 130 (List.map eHead q22.2)) :: J) t o) ?_ ?_
 ·refine w_lpF [] [] (fun K J n26 t o => ∃ v23 v24 v25, gl_cq9_1 n26 v23 v24 v25 = some q22 ∧ PP ((0, .ref 0 (bs 0).1 (bs 0).2 0 v25.length 130) :: (1, .v (.int .i64 v23)) :: (5, .v (.int .i64 v24)) :: K) ((0, ent (bs 0).1 (bs 0).2 130 (List.map eHead v25)) :: J) t o) ?_ ?_
  ·exact ⟨_, _, _, hq, pin, pinh⟩
  rintro n26 t o ⟨v23, v24, v25, h, pq⟩
  refine pn pq ?_
  cases n26 with
  | zero => rw [gl_cq9_1] at h; cases h
  | succ n26 =>
   rw [gl_cq9_1] at h
   refine gx fun x27 h28 x29 h30 => ?_; intros; rename_i h
   refine c_ste (f := eHead) v25 (⟨x27, x29.at_⟩ : Head) (idx_get h30).2 ?_
   refine gx fun x31 h32 => ?_; intros; rename_i h
   refine c_ste (f := eHead) (List.set v25 v24.toNat (⟨x27, x29.at_⟩ : Head)) (⟨x31.name, (IntKind.i64.wrap (v23 + 1))⟩ : Head) (idx_get h32).2 ?_
   exact cls
 rintro t o pq
 refine pnq pq ?_
 exact cls
theorem d_cl9 : OkC [] c_cl9 if_cl9 ks_cl9 := by
 refine ok fun G H ⟨a0, a1⟩ r h => ?_
 refine st1 fun bs t o => ?_
 dsimp only [gf_cl9] at h
 try (refine gx ?_; intros; rename_i h)
 obtain ⟨hf, h⟩ := gd h
 obtain ⟨q9, hq, h⟩ := bnd h
 refine w_lastK [] [] (fun K J t o => ∃ q9_, q9 = .inr q9_ ∧ PP ((1, .v (.int .i64 q9_)) :: K) J t o) ?_ ?_
 ·have ho1 := h
  refine w_lpL (xs := a0) [0] [] 0 hf (fun K J l14 k12 t o => ∃ v10, gl_cl9_1 l14 k12 v10 = some q9 ∧ PP ((1, .v (.int .i64 v10)) :: (5, .v (.int .i64 (k12 : Int))) :: K) J t o) ?_ ?_ ?_
  ·exact ⟨_, hq, pin, pinh⟩
  ·rintro k12 t o hlt ⟨v10, h, pq⟩
   refine pn pq ?_
   rw [gl_cl9_1] at h
   exact cls
  rintro x13 l14 k12 t o hlt hx18 hw hd ⟨v10, h, pq⟩
  refine pn pq ?_
  rw [gl_cl9_1] at h
  exact cls
 rintro t o ⟨q9, rfl, pq⟩
 refine pnq pq ?_
 exact cls
theorem d_cm9 : OkC [c_cv9] c_cm9 if_cm9 ks_cm9 := by
 refine ok fun G H ⟨a0, a1⟩ r h => ?_
 refine st1 fun bs t o => ?_
 dsimp only [gf_cm9] at h
 try (refine gx ?_; intros; rename_i h)
 obtain ⟨hf, h⟩ := gd h
 obtain ⟨q21, hq, h⟩ := bnd h
 refine w_lastK [] [] (fun K J t o => ∃ q21_, q21 = .inr q21_ ∧ PP ((1, .v (.int .i64 q21_)) :: K) J t o) ?_ ?_
 ·have ho1 := h
  refine w_lpL (xs := a0) [0] [] 0 hf (fun K J l26 k24 t o => ∃ v22, gl_cm9_1 l26 k24 v22 = some q21 ∧ PP ((1, .v (.int .i64 v22)) :: (5, .v (.int .i64 (k24 : Int))) :: K) J t o) ?_ ?_ ?_
  ·exact ⟨_, hq, pin, pinh⟩
  ·rintro k24 t o hlt ⟨v22, h, pq⟩
   refine pn pq ?_
   rw [gl_cm9_1] at h
   exact cls
  rintro x25 l26 k24 t o hlt hx30 hw hd ⟨v22, h, pq⟩
  refine pn pq ?_
  rw [gl_cm9_1] at h
  exact cls
 rintro t o ⟨q21, rfl, pq⟩
 refine pnq pq ?_
 exact cls
end Go.Proofs.AM
