/- Lemmas of the proof (QCF5), on an abstract machine. Conditions: none. -/
import Derived.Test.YtodmjmkakgamlaaGreatQCD
set_option linter.unusedVariables false
set_option maxRecDepth 100000
set_option maxHeartbeats 4000000
namespace Go.Proofs.AM
attribute [local irreducible] vwp vstps vstpLs vstp vdo vret kseq kblk kloop kend kcut kloop2 frzV renV shutK pfzV trnV unrV
theorem d_cc9 : OkC [c_bx9, c_bz9] c_cc9 if_cc9 ks_cc9 := by
 refine ok fun G H ⟨a0, a1⟩ r h => ?_
 refine st1 fun bs t o => ?_
 dsimp only [gf_cc9] at h
 exact cls
theorem d_co9 : OkC [c_cs9] c_co9 if_co9 ks_co9 := by
 refine ok fun G H ⟨a0, a1⟩ r h => ?_
 refine st1 fun bs t o => ?_
 dsimp only [gf_co9] at h
 exact cls
theorem d_cp9 : OkC [c_co9] c_cp9 if_cp9 ks_cp9 := by
 refine ok fun G H ⟨a0, a1⟩ r h => ?_
 refine st1 fun bs t o => ?_
 dsimp only [gf_cp9] at h
 try (refine gx ?_; intros; rename_i h)
 obtain ⟨hf, h⟩ := gd h
 obtain ⟨q15, hq, h⟩ := bnd h
 refine w_lastK [] [] (fun K J t o => ∃ q15_, q15 = .inr q15_ ∧ PP ((1, .v (.int .i64 q15_)) :: K) J t o) ?_ ?_
 ·have ho1 := h
  refine w_lpL (xs := a0) [0] [] 0 hf (fun K J l20 k18 t o => ∃ v16, gl_cp9_1 l20 k18 v16 = some q15 ∧ PP ((1, .v (.int .i64 v16)) :: (5, .v (.int .i64 (k18 : Int))) :: K) J t o) ?_ ?_ ?_
  ·exact ⟨_, hq, pin, pinh⟩
  ·rintro k18 t o hlt ⟨v16, h, pq⟩
   refine pn pq ?_
   rw [gl_cp9_1] at h
   exact cls
  rintro x19 l20 k18 t o hlt hx24 hw hd ⟨v16, h, pq⟩
  refine pn pq ?_
  rw [gl_cp9_1] at h
  exact cls
 rintro t o ⟨q15, rfl, pq⟩
 refine pnq pq ?_
 exact cls
theorem d_cq9 : OkC [c_cv9, c_cp9] c_cq9 if_cq9 ks_cq9 := by
 refine ok fun G H ⟨a0, a1⟩ r h => ?_
 refine st1 fun bs t o => ?_
 dsimp only [gf_cq9] at h
 exact cls
theorem d_cr9 : OkC [c_cq9] c_cr9 if_cr9 ks_cr9 := by
 refine ok fun G H ⟨a0, a1⟩ r h => ?_
 refine st1 fun bs t o => ?_
 dsimp only [gf_cr9] at h
 try (refine gx ?_; intros; rename_i h)
 obtain ⟨hf, h⟩ := gd h
 obtain ⟨q15, hq, h⟩ := bnd h
 refine w_lastK [] [] (fun K J t o => ∃ q15_, q15 = .inr q15_ ∧ PP ((1, .v (.int .i64 q15_)) :: K) J t o) ?_ ?_
 ·have ho1 := h
  refine w_lpL (xs := a0) [0] [] 0 hf (fun K J l20 k18 t o => ∃ v16, gl_cr9_1 l20 k18 v16 = some q15 ∧ PP ((1, .v (.int .i64 v16)) :: (5, .v (.int .i64 (k18 : Int))) :: K) J t o) ?_ ?_ ?_
  ·exact ⟨_, hq, pin, pinh⟩
  ·rintro k18 t o hlt ⟨v16, h, pq⟩
   refine pn pq ?_
   rw [gl_cr9_1] at h
   exact cls
  rintro x19 l20 k18 t o hlt hx24 hw hd ⟨v16, h, pq⟩
  refine pn pq ?_
  rw [gl_cr9_1] at h
  exact cls
 rintro t o ⟨q15, rfl, pq⟩
 refine pnq pq ?_
 exact cls
theorem d_da9 : OkC [c_de9] c_da9 if_da9 ks_da9 := by
 refine ok fun G H a0 r h => ?_
 refine st1 fun bs t o => ?_
 dsimp only [gf_da9] at h
 try (refine gx ?_; intros; rename_i h)
 obtain ⟨q3, hq, h⟩ := bnd h
 refine w_cutK [1, 2] [8, 1000260, 1000261, 1000265, 1000266, 16] (fun K J t o => ∃ b5 c6 b7 c8 b9 c10 b11 c12 b13, PP ((3, .ptr 24 b13 155 0 0) :: K) ((1000388, ent b5 c6 66 (List.map ePt [])) :: (1000389, ent b7 c8 82 (List.map eTag [])) :: (1000393, ent b9 c10 66 (List.map ePt [])) :: (1000394, ent b11 c12 82 (List.map eTag [])) :: (24, ⟨b13, 1, 155, true, [[.v (.string (⟨#[]⟩ : Str)), .v (.bool false), .v (.string (⟨#[]⟩ : Str)), .v (.int .i64 0), .al 1000388 b5 c6 0 ([] : List Pt).length 66, .al 1000389 b7 c8 0 ([] : List Tag).length 82, .v (.bool false), .v (.string (⟨#[]⟩ : Str)), .v (.int .i64 0), .al 1000393 b9 c10 0 ([] : List Pt).length 66, .al 1000394 b11 c12 0 ([] : List Tag).length 82]]⟩) :: J) t o) ?_ ?_
 ·have h := hq
  exact cls
 rintro t o ⟨b5, c6, b7, c8, b9, c10, b11, c12, b13, pq⟩
 refine pn pq ?_
 try (refine gx ?_; intros; rename_i h)
 obtain ⟨q14, hq, h⟩ := bnd h
 refine w_cutK [1, 2] [8, 1000260, 1000261, 1000265, 1000266, 16] (fun K J t o => ∃ b22 c23 b25 c26 b9 c10 b11 c12 b29, PP ((3, .ptr 24 b29 155 0 0) :: K) ((1000388, ent b22 c23 66 (List.map ePt q14.1)) :: (1000389, ent b25 c26 82 (List.map eTag q14.2.1)) :: (1000393, ent b9 c10 66 (List.map ePt [])) :: (1000394, ent b11 c12 82 (List.map eTag [])) :: (24, ⟨b29, 1, 155, true, [[.v (.string a0.id), .v (.bool a0.had), .v (.string q14.2.2.1), .v (.int .i64 q14.2.2.2), .al 1000388 b22 c23 0 q14.1.length 66, .al 1000389 b25 c26 0 q14.2.1.length 82, .v (.bool false), .v (.string (⟨#[]⟩ : Str)), .v (.int .i64 0), .al 1000393 b9 c10 0 ([] : List Pt).length 66, .al 1000394 b11 c12 0 ([] : List Tag).length 82]]⟩) :: J) t o) ?_ ?_
 ·have h := hq
  exact cls
 rintro t o ⟨b22, c23, b25, c26, b9, c10, b11, c12, b29, pq⟩
 refine pn pq ?_
 exact cls
theorem d_db9 : OkC [c_da9] c_db9 if_db9 ks_db9 := by
 refine ok fun G H a0 r h => ?_
 refine st1 fun bs t o => ?_
 dsimp only [gf_db9] at h
 refine gx fun h3 => ?_; intros; rename_i h
 obtain ⟨hf, h⟩ := gd h
 obtain ⟨q50, hq, h⟩ := bnd h
 refine w_lastK [] [] (fun K J t o => ∃ b77 c78, PP ((3, .ref 56 b77 c78 0 q50.length 155) :: K) ((56, ent b77 c78 155 (List.map (eChange true) q50)) :: J) t o) ?_ ?_
 ·refine w_lpL (xs := a0) [0] [] 0 hf (fun K J l57 k55 t o => ∃ v52 b53 c54, gl_db9_1 l57 k55 v52 = some q50 ∧ PP ((3, .ref 56 b53 c54 0 v52.length 155) :: (4, .v (.int .i64 (k55 : Int))) :: K) ((56, ent b53 c54 155 (List.map (eChange true) v52)) :: J) t o) ?_ ?_ ?_
  ·exact ⟨_, _, _, hq, pin, pinh⟩
  ·rintro k55 t o hlt ⟨v52, b53, c54, h, pq⟩
   refine pn pq ?_
   rw [gl_db9_1] at h
   exact cls
  rintro x56 l57 k55 t o hlt hx61 hw hd ⟨v52, b53, c54, h, pq⟩
  refine pn pq ?_
  rw [gl_db9_1] at h
  refine gx fun x64 h65 x74 h75 => ?_; intros; rename_i h
  refine c_ste (f := (eChange true)) v52 x64 (idx_get h75).2 ?_
  exact cls
 rintro t o ⟨b77, c78, pq⟩
 refine pnq pq ?_
 exact cls
theorem d_dc9 : OkC [c_dh9, c_db9] c_dc9 if_dc9 ks_dc9 := by
 refine ok fun G H a0 r h => ?_
 refine st1 fun bs t o => ?_
 dsimp only [gf_dc9] at h
 try (refine gx ?_; intros; rename_i h)
 obtain ⟨q4, hq, h⟩ := bnd h
 refine w_cutK [1, 2] [8, 1000256, 1000258, 16] (fun K J t o => ∃ b10 c11 b12, PP ((3, .ptr 24 b12 163 0 0) :: K) ((1000384, ent b10 c11 17 (List.map eInt q4)) :: (1000386, ent none 0 155 (List.map (eChange true) [])) :: (24, ⟨b12, 1, 163, true, [[.al 1000384 b10 c11 0 q4.length 17, .v (.string (⟨#[]⟩ : Str)), .al 1000386 none 0 0 ([] : List Change).length 155]]⟩) :: J) t o) ?_ ?_
 ·have h := hq
  exact cls
 rintro t o ⟨b10, c11, b12, pq⟩
 refine pn pq ?_
 exact cls
theorem d_dd9 : OkC [c_dc9] c_dd9 if_dd9 ks_dd9 := by
 refine ok fun G H a0 r h => ?_
 refine st1 fun bs t o => ?_
 dsimp only [gf_dd9] at h
 refine gx fun h3 => ?_; intros; rename_i h
 obtain ⟨hf, h⟩ := gd h
 obtain ⟨q38, hq, h⟩ := bnd h
 refine w_lastK [] [] (fun K J t o => ∃ b61 c62, PP ((3, .ref 56 b61 c62 0 q38.length 163) :: K) ((56, ent b61 c62 163 (List.map (eEntry true) q38)) :: J) t o) ?_ ?_
 ·refine w_lpL (xs := a0) [0] [] 0 hf (fun K J l45 k43 t o => ∃ v40 b41 c42, gl_dd9_1 l45 k43 v40 = some q38 ∧ PP ((3, .ref 56 b41 c42 0 v40.length 163) :: (4, .v (.int .i64 (k43 : Int))) :: K) ((56, ent b41 c42 163 (List.map (eEntry true) v40)) :: J) t o) ?_ ?_ ?_
  ·exact ⟨_, _, _, hq, pin, pinh⟩
  ·rintro k43 t o hlt ⟨v40, b41, c42, h, pq⟩
   refine pn pq ?_
   rw [gl_dd9_1] at h
   exact cls
  rintro x44 l45 k43 t o hlt hx49 hw hd ⟨v40, b41, c42, h, pq⟩
  refine pn pq ?_
  rw [gl_dd9_1] at h
  refine gx fun x52 h53 x58 h59 => ?_; intros; rename_i h
  refine c_ste (f := (eEntry true)) v40 x52 (idx_get h59).2 ?_
  exact cls
 rintro t o ⟨b61, c62, pq⟩
 refine pnq pq ?_
 exact cls
theorem d_bg9 : OkC [c_bm9] c_bg9 if_bg9 ks_bg9 := by
 refine ok fun G H ⟨a0, a1⟩ r h => ?_
 refine st1 fun bs t o => ?_
 dsimp only [gf_bg9] at h
 exact cls
theorem d_bh9 : OkC [c_bg9] c_bh9 if_bh9 ks_bh9 := by
 refine ok fun G H ⟨a0, a1⟩ r h => ?_
 refine st1 fun bs t o => ?_
 dsimp only [gf_bh9] at h
 try (refine gx ?_; intros; rename_i h)
 obtain ⟨hf, h⟩ := gd h
 obtain ⟨q20, hq, h⟩ := bnd h
 refine w_lastK [] [] (fun K J t o => ∃ q20_, q20 = .inr q20_ ∧ PP K J t o) ?_ ?_
 ·have ho1 := h
  refine w_lpL (xs := a0) [0, 1] [] 0 hf (fun K J l24 k22 t o => gl_bh9_1 a1 l24 k22  = some q20 ∧ PP ((5, .v (.int .i64 (k22 : Int))) :: K) J t o) ?_ ?_ ?_
  ·exact ⟨hq, pin, pinh⟩
  ·rintro k22 t o hlt ⟨h, pq⟩
   refine pn pq ?_
   rw [gl_bh9_1] at h
   exact cls
  rintro x23 l24 k22 t o hlt hx28 hw hd ⟨h, pq⟩
  refine pn pq ?_
  rw [gl_bh9_1] at h
  exact cls
 rintro t o ⟨q20, rfl, pq⟩
 refine pnq pq ?_
 exact cls
theorem d_bk9 : OkC [c_bq9, c_bh9] c_bk9 if_bk9 ks_bk9 := by
 refine ok fun G H ⟨a0, a1⟩ r h => ?_
 refine st1 fun bs t o => ?_
 dsimp only [gf_bk9] at h
 exact cls
theorem d_bl9 : OkC [c_bk9] c_bl9 if_bl9 ks_bl9 := by
 refine ok fun G H ⟨a0, a1⟩ r h => ?_
 refine st1 fun bs t o => ?_
 dsimp only [gf_bl9] at h
 try (refine gx ?_; intros; rename_i h)
 obtain ⟨hf, h⟩ := gd h
 obtain ⟨q20, hq, h⟩ := bnd h
 refine w_lastK [] [] (fun K J t o => ∃ q20_, q20 = .inr q20_ ∧ PP K J t o) ?_ ?_
 ·have ho1 := h
  refine w_lpL (xs := a0) [0, 1] [] 0 hf (fun K J l24 k22 t o => gl_bl9_1 a1 l24 k22  = some q20 ∧ PP ((5, .v (.int .i64 (k22 : Int))) :: K) J t o) ?_ ?_ ?_
  ·exact ⟨hq, pin, pinh⟩
  ·rintro k22 t o hlt ⟨h, pq⟩
   refine pn pq ?_
   rw [gl_bl9_1] at h
   exact cls
  rintro x23 l24 k22 t o hlt hx28 hw hd ⟨h, pq⟩
  refine pn pq ?_
  rw [gl_bl9_1] at h
  exact cls
 rintro t o ⟨q20, rfl, pq⟩
 refine pnq pq ?_
 exact cls
theorem d_ew9 : OkC [] c_ew9 if_ew9 ks_ew9 := by
 refine ok fun G H ⟨a0, a1⟩ r h => ?_
 refine st1 fun bs t o => ?_
 dsimp only [gf_ew9] at h
 try (refine gx ?_; intros; rename_i h)
 obtain ⟨hf, h⟩ := gd h
 obtain ⟨q24, hq, h⟩ := bnd h
 refine w_lastK [] [] (fun K J t o => ∃ b43 c44, PP ((5, .ref 56 b43 c44 0 q24.length 100) :: K) ((56, ent b43 c44 100 (List.map (eFeat false) q24)) :: J) t o) ?_ ?_
 ·refine w_lpL (xs := a0) [0, 1] [] 0 hf (fun K J l31 k29 t o => ∃ v26 b27 c28, gl_ew9_1 a1 l31 k29 v26 = some q24 ∧ PP ((5, .ref 56 b27 c28 0 v26.length 100) :: (6, .v (.int .i64 (k29 : Int))) :: K) ((56, ent b27 c28 100 (List.map (eFeat false) v26)) :: J) t o) ?_ ?_ ?_
  ·exact ⟨_, _, _, hq, pin, pinh⟩
  ·rintro k29 t o hlt ⟨v26, b27, c28, h, pq⟩
   refine pn pq ?_
   rw [gl_ew9_1] at h
   exact cls
  rintro x30 l31 k29 t o hlt hx35 hw hd ⟨v26, b27, c28, h, pq⟩
  refine pn pq ?_
  rw [gl_ew9_1] at h
  exact cls
 rintro t o ⟨b43, c44, pq⟩
 refine pnq pq ?_
 exact cls
theorem d_fa9 : OkC [c_en9, c_eg9, c_ef9] c_fa9 if_fa9 ks_fa9 := by
 refine ok fun G H a0 r h => ?_
 refine st1 fun bs t o => ?_
 dsimp only [gf_fa9] at h
 try (refine gx ?_; intros; rename_i h)
 obtain ⟨q8, hq, h⟩ := bnd h
 refine w_cutK [] [] (fun K J t o => ∃ q8_ b17, q8 = .inr q8_ ∧ PP ((1, .ptr 8 b17 155 0 0) :: K) ((8, ⟨b17, 1, 155, true, [[.v (.string a0.id), .v (.bool q8_.1), .v (.string a0.was.id), .v (.int .i64 a0.was.shape.kind), .sl false 2 (List.map ePt a0.was.shape.pts), .sl false 2 (List.map eTag a0.was.tags), .v (.bool q8_.2), .v (.string a0.now.id), .v (.int .i64 a0.now.shape.kind), .sl false 2 (List.map ePt a0.now.shape.pts), .sl false 2 (List.map eTag a0.now.tags)]]⟩) :: J) t o) ?_ ?_
 ·have ho1 := h
  have h := hq
  exact cls
 rintro t o ⟨q8, b17, rfl, pq⟩
 refine pn pq ?_
 try (refine gx ?_; intros; rename_i h)
 obtain ⟨q24, hq, h⟩ := bnd h
 refine w_cutK [1] [8] (fun K J t o => ∃ q24_, q24 = .inr q24_ ∧ PP K J t o) ?_ ?_
 ·have ho1 := h
  have h := hq
  exact cls
 rintro t o ⟨q24, rfl, pq⟩
 refine pn pq ?_
 exact cls
theorem d_ee9 : OkC [c_fa9] c_ee9 if_ee9 ks_ee9 := by
 refine ok fun G H a0 r h => ?_
 refine st1 fun bs t o => ?_
 dsimp only [gf_ee9] at h
 try (refine gx ?_; intros; rename_i h)
 obtain ⟨hf, h⟩ := gd h
 obtain ⟨q18, hq, h⟩ := bnd h
 refine w_lastK [0] [] (fun K J t o => ∃ q18_, q18 = .inr q18_ ∧ PP K J t o) ?_ ?_
 ·have ho1 := h
  refine w_lpL (xs := a0) [0] [] 0 hf (fun K J l22 k20 t o => gl_ee9_1 a0 l22 k20  = some q18 ∧ PP ((3, .v (.int .i64 (k20 : Int))) :: K) J t o) ?_ ?_ ?_
  ·exact ⟨hq, pin, pinh⟩
  ·rintro k20 t o hlt ⟨h, pq⟩
   refine pn pq ?_
   rw [gl_ee9_1] at h
   exact cls
  rintro x21 l22 k20 t o hlt hx26 hw hd ⟨h, pq⟩
  refine pn pq ?_
  rw [gl_ee9_1] at h
  exact cls
 rintro t o ⟨q18, rfl, pq⟩
 refine pnq pq ?_
 exact cls
theorem d_aa9 : OkC [c_af9] c_aa9 if_aa9 ks_aa9 := by
 refine ok fun G H a0 r h => ?_
 refine st1 fun bs t o => ?_
 dsimp only [gf_aa9] at h
 exact cls
theorem d_az9 : OkC [] c_az9 if_az9 ks_az9 := by
 refine ok fun G H a0 r h => ?_
 refine st1 fun bs t o => ?_
 dsimp only [gf_az9] at h
 exact cls
theorem d_bd9 : OkC [c_az9, c_ae9] c_bd9 if_bd9 ks_bd9 := by
 refine ok fun G H ⟨a0, a1, a2⟩ r h => ?_
 refine st1 fun bs t o => ?_
 dsimp only [gf_bd9] at h
 exact cls
theorem d_ad9 : OkC [c_ar9, c_bd9, c_aa9] c_ad9 if_ad9 ks_ad9 := by
 refine ok fun G H a0 r h => ?_
 refine st1 fun bs t o => ?_
 dsimp only [gf_ad9] at h
 try (refine gx ?_; intros; rename_i h)
 obtain ⟨hf, h⟩ := gd h
 obtain ⟨q51, hq, h⟩ := bnd h
 refine w_lastK [0] [] (fun K J t o => ∃ q51_, q51 = .inr q51_ ∧ PP K J t o) ?_ ?_
 ·have ho1 := h
  refine w_lpL (xs := a0) [0, 5, 6] [] 0 hf (fun K J l55 k53 t o => gl_ad9_1 a0 l55 k53  = some q51 ∧ PP ((7, .v (.int .i64 (k53 : Int))) :: K) J t o) ?_ ?_ ?_
  ·exact ⟨hq, pin, pinh⟩
  ·rintro k53 t o hlt ⟨h, pq⟩
   refine pn pq ?_
   rw [gl_ad9_1] at h
   exact cls
  rintro x54 l55 k53 t o hlt hx59 hw hd ⟨h, pq⟩
  refine pn pq ?_
  rw [gl_ad9_1] at h
  exact cls
 rintro t o ⟨q51, rfl, pq⟩
 refine pnq pq ?_
 exact cls
end Go.Proofs.AM
