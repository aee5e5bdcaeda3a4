/- Lemmas of the proof (RAF1), on an abstract machine. Conditions: none. -/
import Derived.Test.YtodmjmkakgamlaaDoorRAD
set_option linter.unusedVariables false
set_option maxRecDepth 100000
set_option maxHeartbeats 4000000
namespace Go.Proofs.AM
attribute [local irreducible] vwp vstps vstpLs vstp vdo vret kseq kblk kloop kend kcut kloop2 frzV renV shutK pfzV trnV unrV
theorem d_ae9 : OkC [c_al9, c_ai9] c_ae9 if_ae9 ks_ae9 := by
 refine ok fun G H a0 r h => ?_
 refine st1 fun bs t o => ?_
 dsimp only [gf_ae9] at h
 try (refine gx ?_; intros; rename_i h)
 obtain ⟨hf, h⟩ := gd h
 obtain ⟨q28, hq, h⟩ := bnd h
 refine w_lastK [1] [8] (fun K J t o => ∃ q28_, q28 = .inr q28_ ∧ PP K J t o) ?_ ?_
 ·have ho1 := h
  refine w_lpL (xs := a0.tags) [1, 6, 7] [8] 0 hf (fun K J l32 k30 t o => gl_ae9_1 a0 l32 k30  = some q28 ∧ PP ((8, .v (.int .i64 (k30 : Int))) :: K) J t o) ?_ ?_ ?_
  ·exact ⟨hq, pin, pinh⟩
  ·rintro k30 t o hlt ⟨h, pq⟩
   refine pn pq ?_
   rw [gl_ae9_1] at h
   exact cls
  rintro x31 l32 k30 t o hlt hx36 hw hd ⟨h, pq⟩
  refine pn pq ?_
  rw [gl_ae9_1] at h
  exact cls
 rintro t o ⟨q28, rfl, pq⟩
 refine pnq pq ?_
 exact cls
theorem d_bx9 : OkC [] c_bx9 if_bx9 ks_bx9 := by
 refine ok fun G H ⟨a0, a1⟩ r h => ?_
 refine st1 fun bs t o => ?_
 dsimp only [gf_bx9] at h
 try (refine gx ?_; intros; rename_i h)
 obtain ⟨hf, h⟩ := gd h
 obtain ⟨q14, hq, h⟩ := bnd h
 refine w_lastK [] [] (fun K J t o => ∃ q14_, q14 = .inr q14_ ∧ PP K J t o) ?_ ?_
 ·have ho1 := h
  refine w_lpL (xs := a0) [0, 1, 12] [] 0 hf (fun K J l18 k16 t o => gl_bx9_1 a1 l18 k16  = some q14 ∧ PP ((13, .v (.int .i64 (k16 : Int))) :: K) J t o) ?_ ?_ ?_
  ·exact ⟨hq, pin, pinh⟩
  ·rintro k16 t o hlt ⟨h, pq⟩
   refine pn pq ?_
   rw [gl_bx9_1] at h
   exact cls
  rintro x17 l18 k16 t o hlt hx22 hw hd ⟨h, pq⟩
  refine pn pq ?_
  rw [gl_bx9_1] at h
  exact cls
 rintro t o ⟨q14, rfl, pq⟩
 refine pnq pq ?_
 exact cls
theorem d_aj9 : OkC [c_bx9] c_aj9 if_aj9 ks_aj9 := by
 refine ok fun G H ⟨a0, a1⟩ r h => ?_
 refine st1 fun bs t o => ?_
 dsimp only [gf_aj9] at h
 exact cls
theorem d_by9 : OkC [] c_by9 if_by9 ks_by9 := by
 refine ok fun G H ⟨a0, a1⟩ r h => ?_
 refine st1 fun bs t o => ?_
 dsimp only [gf_by9] at h
 try (refine gx ?_; intros; rename_i h)
 obtain ⟨hf, h⟩ := gd h
 obtain ⟨q14, hq, h⟩ := bnd h
 refine w_lastK [] [] (fun K J t o => ∃ q14_, q14 = .inr q14_ ∧ PP K J t o) ?_ ?_
 ·have ho1 := h
  refine w_lpL (xs := a0) [0, 1, 12] [] 0 hf (fun K J l18 k16 t o => gl_by9_1 a1 l18 k16  = some q14 ∧ PP ((13, .v (.int .i64 (k16 : Int))) :: K) J t o) ?_ ?_ ?_
  ·exact ⟨hq, pin, pinh⟩
  ·rintro k16 t o hlt ⟨h, pq⟩
   refine pn pq ?_
   rw [gl_by9_1] at h
   exact cls
  rintro x17 l18 k16 t o hlt hx22 hw hd ⟨h, pq⟩
  refine pn pq ?_
  rw [gl_by9_1] at h
  exact cls
 rintro t o ⟨q14, rfl, pq⟩
 refine pnq pq ?_
 exact cls
theorem d_af9 : OkC [c_aj9, c_by9] c_af9 if_af9 ks_af9 := by
 refine ok fun G H ⟨a0, a1⟩ r h => ?_
 refine st1 fun bs t o => ?_
 dsimp only [gf_af9] at h
 exact cls
theorem d_ax9 : OkC [] c_ax9 if_ax9 ks_ax9 := by
 refine ok fun G H ⟨a0, a1⟩ r h => ?_
 refine st1 fun bs t o => ?_
 dsimp only [gf_ax9] at h
 exact cls
theorem d_ay9 : OkC [c_ax9] c_ay9 if_ay9 ks_ay9 := by
 refine ok fun G H ⟨a0, a1⟩ r h => ?_
 refine st1 fun bs t o => ?_
 dsimp only [gf_ay9] at h
 try (refine gx ?_; intros; rename_i h)
 obtain ⟨hf, h⟩ := gd h
 obtain ⟨q20, hq, h⟩ := bnd h
 refine w_lastK [] [] (fun K J t o => ∃ q20_, q20 = .inr q20_ ∧ PP K J t o) ?_ ?_
 ·have ho1 := h
  refine w_lpL (xs := a0) [0, 1] [] 0 hf (fun K J l24 k22 t o => gl_ay9_1 a1 l24 k22  = some q20 ∧ PP ((5, .v (.int .i64 (k22 : Int))) :: K) J t o) ?_ ?_ ?_
  ·exact ⟨hq, pin, pinh⟩
  ·rintro k22 t o hlt ⟨h, pq⟩
   refine pn pq ?_
   rw [gl_ay9_1] at h
   exact cls
  rintro x23 l24 k22 t o hlt hx28 hw hd ⟨h, pq⟩
  refine pn pq ?_
  rw [gl_ay9_1] at h
  exact cls
 rintro t o ⟨q20, rfl, pq⟩
 refine pnq pq ?_
 exact cls
theorem d_ba9 : OkC [] c_ba9 if_ba9 ks_ba9 := by
 refine ok fun G H ⟨a0, a1⟩ r h => ?_
 refine st1 fun bs t o => ?_
 dsimp only [gf_ba9] at h
 exact cls
theorem d_az9 : OkC [c_ay9] c_az9 if_az9 ks_az9 := by
 refine ok fun G H ⟨a0, a1⟩ r h => ?_
 refine st1 fun bs t o => ?_
 dsimp only [gf_az9] at h
 exact cls
theorem d_bb9 : OkC [c_ba9] c_bb9 if_bb9 ks_bb9 := by
 refine ok fun G H ⟨a0, a1⟩ r h => ?_
 refine st1 fun bs t o => ?_
 dsimp only [gf_bb9] at h
 try (refine gx ?_; intros; rename_i h)
 obtain ⟨hf, h⟩ := gd h
 obtain ⟨q20, hq, h⟩ := bnd h
 refine w_lastK [] [] (fun K J t o => ∃ q20_, q20 = .inr q20_ ∧ PP K J t o) ?_ ?_
 ·have ho1 := h
  refine w_lpL (xs := a0) [0, 1] [] 0 hf (fun K J l24 k22 t o => gl_bb9_1 a1 l24 k22  = some q20 ∧ PP ((5, .v (.int .i64 (k22 : Int))) :: K) J t o) ?_ ?_ ?_
  ·exact ⟨hq, pin, pinh⟩
  ·rintro k22 t o hlt ⟨h, pq⟩
   refine pn pq ?_
   rw [gl_bb9_1] at h
   exact cls
  rintro x23 l24 k22 t o hlt hx28 hw hd ⟨h, pq⟩
  refine pn pq ?_
  rw [gl_bb9_1] at h
  exact cls
 rintro t o ⟨q20, rfl, pq⟩
 refine pnq pq ?_
 exact cls
theorem d_av9 : OkC [c_az9, c_bb9] c_av9 if_av9 ks_av9 := by
 refine ok fun G H ⟨a0, a1⟩ r h => ?_
 refine st1 fun bs t o => ?_
 dsimp only [gf_av9] at h
 exact cls
theorem d_aw9 : OkC [] c_aw9 if_aw9 ks_aw9 := by
 refine ok fun G H ⟨a0, a1⟩ r h => ?_
 refine st1 fun bs t o => ?_
 dsimp only [gf_aw9] at h
 try (refine gx ?_; intros; rename_i h)
 obtain ⟨hf, h⟩ := gd h
 obtain ⟨q14, hq, h⟩ := bnd h
 refine w_lastK [] [] (fun K J t o => ∃ q14_, q14 = .inr q14_ ∧ PP K J t o) ?_ ?_
 ·have ho1 := h
  refine w_lpL (xs := a0) [0, 1] [] 0 hf (fun K J l18 k16 t o => gl_aw9_1 a1 l18 k16  = some q14 ∧ PP ((5, .v (.int .i64 (k16 : Int))) :: K) J t o) ?_ ?_ ?_
  ·exact ⟨hq, pin, pinh⟩
  ·rintro k16 t o hlt ⟨h, pq⟩
   refine pn pq ?_
   rw [gl_aw9_1] at h
   exact cls
  rintro x17 l18 k16 t o hlt hx22 hw hd ⟨h, pq⟩
  refine pn pq ?_
  rw [gl_aw9_1] at h
  exact cls
 rintro t o ⟨q14, rfl, pq⟩
 refine pnq pq ?_
 exact cls
theorem d_bc9 : OkC [c_bg9] c_bc9 if_bc9 ks_bc9 := by
 refine ok fun G H ⟨a0, a1⟩ r h => ?_
 refine st1 fun bs t o => ?_
 dsimp only [gf_bc9] at h
 exact cls
theorem d_bd9 : OkC [c_bc9] c_bd9 if_bd9 ks_bd9 := by
 refine ok fun G H ⟨a0, a1⟩ r h => ?_
 refine st1 fun bs t o => ?_
 dsimp only [gf_bd9] at h
 try (refine gx ?_; intros; rename_i h)
 obtain ⟨hf, h⟩ := gd h
 obtain ⟨q15, hq, h⟩ := bnd h
 refine w_lastK [] [] (fun K J t o => ∃ q15_, q15 = .inr q15_ ∧ PP ((1, .v (.int .i64 q15_)) :: K) J t o) ?_ ?_
 ·have ho1 := h
  refine w_lpL (xs := a0) [0] [] 0 hf (fun K J l20 k18 t o => ∃ v16, gl_bd9_1 l20 k18 v16 = some q15 ∧ PP ((1, .v (.int .i64 v16)) :: (5, .v (.int .i64 (k18 : Int))) :: K) J t o) ?_ ?_ ?_
  ·exact ⟨_, hq, pin, pinh⟩
  ·rintro k18 t o hlt ⟨v16, h, pq⟩
   refine pn pq ?_
   rw [gl_bd9_1] at h
   exact cls
  rintro x19 l20 k18 t o hlt hx24 hw hd ⟨v16, h, pq⟩
  refine pn pq ?_
  rw [gl_bd9_1] at h
  exact cls
 rintro t o ⟨q15, rfl, pq⟩
 refine pnq pq ?_
 exact cls
theorem d_be9 : OkC [c_bh9, c_bd9] c_be9 if_be9 ks_be9 := by
 refine ok fun G H ⟨a0, a1⟩ r h => ?_
 refine st1 fun bs t o => ?_
 dsimp only [gf_be9] at h
 exact cls
theorem d_bf9 : OkC [c_be9] c_bf9 if_bf9 ks_bf9 := by
 refine ok fun G H ⟨a0, a1⟩ r h => ?_
 refine st1 fun bs t o => ?_
 dsimp only [gf_bf9] at h
 try (refine gx ?_; intros; rename_i h)
 obtain ⟨hf, h⟩ := gd h
 obtain ⟨q15, hq, h⟩ := bnd h
 refine w_lastK [] [] (fun K J t o => ∃ q15_, q15 = .inr q15_ ∧ PP ((1, .v (.int .i64 q15_)) :: K) J t o) ?_ ?_
 ·have ho1 := h
  refine w_lpL (xs := a0) [0] [] 0 hf (fun K J l20 k18 t o => ∃ v16, gl_bf9_1 l20 k18 v16 = some q15 ∧ PP ((1, .v (.int .i64 v16)) :: (5, .v (.int .i64 (k18 : Int))) :: K) J t o) ?_ ?_ ?_
  ·exact ⟨_, hq, pin, pinh⟩
  ·rintro k18 t o hlt ⟨v16, h, pq⟩
   refine pn pq ?_
   rw [gl_bf9_1] at h
   exact cls
  rintro x19 l20 k18 t o hlt hx24 hw hd ⟨v16, h, pq⟩
  refine pn pq ?_
  rw [gl_bf9_1] at h
  exact cls
 rintro t o ⟨q15, rfl, pq⟩
 refine pnq pq ?_
 exact cls
theorem d_bm9 : OkC [c_bq9] c_bm9 if_bm9 ks_bm9 := by
 refine ok fun G H a0 r h => ?_
 refine st1 fun bs t o => ?_
 dsimp only [gf_bm9] at h
 try (refine gx ?_; intros; rename_i h)
 obtain ⟨q3, hq, h⟩ := bnd h
 refine w_cutK [1, 2] [8, 1000260, 1000261, 1000265, 1000266, 16] (fun K J t o => ∃ b5 c6 b7 c8 b9 c10 b11 c12 b13, PP ((3, .ptr 24 b13 155 0 0) :: K) ((1000388, ent b5 c6 66 (List.map ePt [])) :: (1000389, ent b7 c8 82 (List.map eTag [])) :: (1000393, ent b9 c10 66 (List.map ePt [])) :: (1000394, ent b11 c12 82 (List.map eTag [])) :: (24, ⟨b13, 1, 155, true, [[.v (.string (⟨#[]⟩ : Str)), .v (.bool false), .v (.string (⟨#[]⟩ : Str)), .v (.int .i64 0), .al 1000388 b5 c6 0 ([] : List Pt).length 66, .al 1000389 b7 c8 0 ([] : List Tag).length 82, .v (.bool false), .v (.string (⟨#[]⟩ : Str)), .v (.int .i64 0), .al 1000393 b9 c10 0 ([] : List Pt).length 66, .al 1000394 b11 c12 0 ([] : List Tag).length 82]]⟩) :: J) t o) ?_ ?_
 ·have h := hq
  exact cls
 rintro t o ⟨b5, c6, b7, c8, b9, c10, b11, c12, b13, pq⟩
 refine pn pq ?_
 try (refine gx ?_; intros; rename_i h)
 obtain ⟨q14, hq, h⟩ := bnd h
 refine w_cutK [1, 2] [8, 1000260, 1000261, 1000265, 1000266, 16] (fun K J t o => ∃ b22 c23 b25 c26 b9 c10 b11 c12 b29, PP ((3, .ptr 24 b29 155 0 0) :: K) ((1000388, ent b22 c23 66 (List.map ePt q14.1)) :: (1000389, ent b25 c26 82 (List.map eTag q14.2.1)) :: (1000393, ent b9 c10 66 (List.map ePt [])) :: (1000394, ent b11 c12 82 (List.map eTag [])) :: (24, ⟨b29, 1, 155, true, [[.v (.string a0.id), .v (.bool a0.had), .v (.string q14.2.2.1), .v (.int .i64 q14.2.2.2), .al 1000388 b22 c23 0 q14.1.length 66, .al 1000389 b25 c26 0 q14.2.1.length 82, .v (.bool false), .v (.string (⟨#[]⟩ : Str)), .v (.int .i64 0), .al 1000393 b9 c10 0 ([] : List Pt).length 66, .al 1000394 b11 c12 0 ([] : List Tag).length 82]]⟩) :: J) t o) ?_ ?_
 ·have h := hq
  exact cls
 rintro t o ⟨b22, c23, b25, c26, b9, c10, b11, c12, b29, pq⟩
 refine pn pq ?_
 exact cls
theorem d_bn9 : OkC [c_bm9] c_bn9 if_bn9 ks_bn9 := by
 refine ok fun G H a0 r h => ?_
 refine st1 fun bs t o => ?_
 dsimp only [gf_bn9] at h
 refine gx fun h3 => ?_; intros; rename_i h
 obtain ⟨hf, h⟩ := gd h
 obtain ⟨q50, hq, h⟩ := bnd h
 refine w_lastK [] [] (fun K J t o => ∃ b77 c78, PP ((3, .ref 56 b77 c78 0 q50.length 155) :: K) ((56, ent b77 c78 155 (List.map (eChange true) q50)) :: J) t o) ?_ ?_
 ·refine w_lpL (xs := a0) [0] [] 0 hf (fun K J l57 k55 t o => ∃ v52 b53 c54, gl_bn9_1 l57 k55 v52 = some q50 ∧ PP ((3, .ref 56 b53 c54 0 v52.length 155) :: (4, .v (.int .i64 (k55 : Int))) :: K) ((56, ent b53 c54 155 (List.map (eChange true) v52)) :: J) t o) ?_ ?_ ?_
  ·exact ⟨_, _, _, hq, pin, pinh⟩
  ·rintro k55 t o hlt ⟨v52, b53, c54, h, pq⟩
   refine pn pq ?_
   rw [gl_bn9_1] at h
   exact cls
  rintro x56 l57 k55 t o hlt hx61 hw hd ⟨v52, b53, c54, h, pq⟩
  refine pn pq ?_
  rw [gl_bn9_1] at h
  refine gx fun x64 h65 x74 h75 => ?_; intros; rename_i h
  refine c_ste (f := (eChange true)) v52 x64 (idx_get h75).2 ?_
  exact cls
 rintro t o ⟨b77, c78, pq⟩
 refine pnq pq ?_
 exact cls
theorem d_bo9 : OkC [c_br9, c_bn9] c_bo9 if_bo9 ks_bo9 := by
 refine ok fun G H a0 r h => ?_
 refine st1 fun bs t o => ?_
 dsimp only [gf_bo9] at h
 try (refine gx ?_; intros; rename_i h)
 obtain ⟨q4, hq, h⟩ := bnd h
 refine w_cutK [1, 2] [8, 1000256, 1000258, 16] (fun K J t o => ∃ b10 c11 b12, PP ((3, .ptr 24 b12 163 0 0) :: K) ((1000384, ent b10 c11 17 (List.map eInt q4)) :: (1000386, ent none 0 155 (List.map (eChange true) [])) :: (24, ⟨b12, 1, 163, true, [[.al 1000384 b10 c11 0 q4.length 17, .v (.string (⟨#[]⟩ : Str)), .al 1000386 none 0 0 ([] : List Change).length 155]]⟩) :: J) t o) ?_ ?_
 ·have h := hq
  exact cls
 rintro t o ⟨b10, c11, b12, pq⟩
 refine pn pq ?_
 exact cls
theorem d_bp9 : OkC [c_bo9] c_bp9 if_bp9 ks_bp9 := by
 refine ok fun G H a0 r h => ?_
 refine st1 fun bs t o => ?_
 dsimp only [gf_bp9] at h
 refine gx fun h3 => ?_; intros; rename_i h
 obtain ⟨hf, h⟩ := gd h
 obtain ⟨q38, hq, h⟩ := bnd h
 refine w_lastK [] [] (fun K J t o => ∃ b61 c62, PP ((3, .ref 56 b61 c62 0 q38.length 163) :: K) ((56, ent b61 c62 163 (List.map (eEntry true) q38)) :: J) t o) ?_ ?_
 ·refine w_lpL (xs := a0) [0] [] 0 hf (fun K J l45 k43 t o => ∃ v40 b41 c42, gl_bp9_1 l45 k43 v40 = some q38 ∧ PP ((3, .ref 56 b41 c42 0 v40.length 163) :: (4, .v (.int .i64 (k43 : Int))) :: K) ((56, ent b41 c42 163 (List.map (eEntry true) v40)) :: J) t o) ?_ ?_ ?_
  ·exact ⟨_, _, _, hq, pin, pinh⟩
  ·rintro k43 t o hlt ⟨v40, b41, c42, h, pq⟩
   refine pn pq ?_
   rw [gl_bp9_1] at h
   exact cls
  rintro x44 l45 k43 t o hlt hx49 hw hd ⟨v40, b41, c42, h, pq⟩
  refine pn pq ?_
  rw [gl_bp9_1] at h
  refine gx fun x52 h53 x58 h59 => ?_; intros; rename_i h
  refine c_ste (f := (eEntry true)) v40 x52 (idx_get h59).2 ?_
  exact cls
 rintro t o ⟨b61, c62, pq⟩
 refine pnq pq ?_
 exact cls
end Go.Proofs.AM
