/- Lemmas of the proof (QBF1), on an abstract machine. Conditions: none. -/
import Derived.Test.YtodmjmkakgamlaaGreatQBD
set_option linter.unusedVariables false
set_option maxRecDepth 100000
set_option maxHeartbeats 4000000
namespace Go.Proofs.AM
attribute [local irreducible] vwp vstps vstpLs vstp vdo vret kseq kblk kloop kend kcut kloop2 frzV renV shutK pfzV trnV unrV
theorem d_eq9 : OkC [c_et9] c_eq9 if_eq9 ks_eq9 := by
 refine ok fun G H ⟨a0, a1⟩ r h => ?_
 refine st1 fun bs t o => ?_
 dsimp only [gf_eq9] at h
 try (refine gx ?_; intros; rename_i h)
 obtain ⟨hf, h⟩ := gd h
 obtain ⟨q16, hq, h⟩ := bnd h
 refine w_lastK [] [] (fun K J t o => ∃ q16_, q16 = .inr q16_ ∧ PP K J t o) ?_ ?_
 ·have ho1 := h
  refine w_lpL (xs := a0.commits) [2, 3] [16, 24] 0 hf (fun K J l20 k18 t o => gl_eq9_1 a1 l20 k18  = some q16 ∧ PP ((5, .v (.int .i64 (k18 : Int))) :: K) J t o) ?_ ?_ ?_
  ·exact ⟨hq, pin, pinh⟩
  ·rintro k18 t o hlt ⟨h, pq⟩
   refine pn pq ?_
   rw [gl_eq9_1] at h
   exact cls
  rintro x19 l20 k18 t o hlt hx24 hw hd ⟨h, pq⟩
  refine pn pq ?_
  rw [gl_eq9_1] at h
  exact cls
 rintro t o ⟨q16, rfl, pq⟩
 refine pnq pq ?_
 exact cls
theorem d_er9 : OkC [] c_er9 if_er9 ks_er9 := by
 refine ok fun G H ⟨a0, a1⟩ r h => ?_
 refine st1 fun bs t o => ?_
 dsimp only [gf_er9] at h
 try (refine gx ?_; intros; rename_i h)
 obtain ⟨hf, h⟩ := gd h
 obtain ⟨q9, hq, h⟩ := bnd h
 refine w_lastK [] [] (fun K J t o => ∃ q9_, q9 = .inr q9_ ∧ PP K J t o) ?_ ?_
 ·have ho1 := h
  refine w_lpL (xs := a0.heads) [1, 2] [16] 0 hf (fun K J l13 k11 t o => gl_er9_1 a1 l13 k11  = some q9 ∧ PP ((5, .v (.int .i64 (k11 : Int))) :: K) J t o) ?_ ?_ ?_
  ·exact ⟨hq, pin, pinh⟩
  ·rintro k11 t o hlt ⟨h, pq⟩
   refine pn pq ?_
   rw [gl_er9_1] at h
   exact cls
  rintro x12 l13 k11 t o hlt hx17 hw hd ⟨h, pq⟩
  refine pn pq ?_
  rw [gl_er9_1] at h
  exact cls
 rintro t o ⟨q9, rfl, pq⟩
 refine pnq pq ?_
 exact cls
theorem d_ed9 : OkC [] c_ed9 if_ed9 ks_ed9 := by
 refine ok fun G H a0 r h => ?_
 refine st1 fun bs t o => ?_
 dsimp only [gf_ed9] at h
 exact cls
theorem d_eh9 : OkC [c_ed9] c_eh9 if_eh9 ks_eh9 := by
 refine ok fun G H a0 r h => ?_
 refine st1 fun bs t o => ?_
 dsimp only [gf_eh9] at h
 exact cls
theorem d_dx9 : OkC [c_eu9, c_ea9, c_ec9, c_eq9, c_er9] c_dx9 if_dx9 ks_dx9 := by
 refine ok fun G H a0 r h => ?_
 refine st1 fun bs t o => ?_
 dsimp only [gf_dx9] at h
 try (refine gx ?_; intros; rename_i h)
 obtain ⟨hf, h⟩ := gd h
 obtain ⟨q36, hq, h⟩ := bnd h
 refine w_lastK [1] [8] (fun K J t o => ∃ q36_, q36 = .inr q36_ ∧ PP K J t o) ?_ ?_
 ·have ho1 := h
  refine w_lpL (xs := a0.commits) [1] [8] 0 hf (fun K J l40 k38 t o => gl_dx9_1 a0 l40 k38  = some q36 ∧ PP ((3, .v (.int .i64 (k38 : Int))) :: K) J t o) ?_ ?_ ?_
  ·exact ⟨hq, pin, pinh⟩
  ·rintro k38 t o hlt ⟨h, pq⟩
   refine pn pq ?_
   rw [gl_dx9_1] at h
   exact cls
  rintro x39 l40 k38 t o hlt hx44 hw hd ⟨h, pq⟩
  refine pn pq ?_
  rw [gl_dx9_1] at h
  exact cls
 rintro t o ⟨q36, rfl, pq⟩
 refine pnq pq ?_
 try (refine gx ?_; intros; rename_i h)
 obtain ⟨hf, h⟩ := gd h
 obtain ⟨q78, hq, h⟩ := bnd h
 refine w_lastK [] [] (fun K J t o => ∃ q78_, q78 = .inr q78_ ∧ PP K J t o) ?_ ?_
 ·have ho1 := h
  refine w_lpL (xs := a0.heads) [1] [8] 0 hf (fun K J l82 k80 t o => gl_dx9_2 a0 l82 k80  = some q78 ∧ PP ((5, .v (.int .i64 (k80 : Int))) :: K) J t o) ?_ ?_ ?_
  ·exact ⟨hq, pin, pinh⟩
  ·rintro k80 t o hlt ⟨h, pq⟩
   refine pn pq ?_
   rw [gl_dx9_2] at h
   exact cls
  rintro x81 l82 k80 t o hlt hx86 hw hd ⟨h, pq⟩
  refine pn pq ?_
  rw [gl_dx9_2] at h
  exact cls
 rintro t o ⟨q78, rfl, pq⟩
 refine pnq pq ?_
 exact cls
theorem d_el9 : OkC [] c_el9 if_el9 ks_el9 := by
 refine ok fun G H ⟨a0, a1⟩ r h => ?_
 refine st1 fun bs t o => ?_
 dsimp only [gf_el9] at h
 try (refine gx ?_; intros; rename_i h)
 obtain ⟨hf, h⟩ := gd h
 obtain ⟨q81, hq, h⟩ := bnd h
 refine w_lastK [3] [24] (fun K J t o => ∃ b115 c116, PP ((5, .ref 64 b115 c116 0 q81.2.length 100) :: (6, .v (.bool q81.1)) :: K) ((64, ent b115 c116 100 (List.map (eFeat false) q81.2)) :: J) t o) ?_ ?_
 ·refine w_lpL (xs := a0) [0, 3] [24] 0 hf (fun K J l89 k87 t o => ∃ v82 v84 b85 c86, gl_el9_1 a1 l89 k87 v82 v84 = some q81 ∧ PP ((5, .ref 64 b85 c86 0 v84.length 100) :: (6, .v (.bool v82)) :: (7, .v (.int .i64 (k87 : Int))) :: K) ((64, ent b85 c86 100 (List.map (eFeat false) v84)) :: J) t o) ?_ ?_ ?_
  ·exact ⟨_, _, _, _, hq, pin, pinh⟩
  ·rintro k87 t o hlt ⟨v82, v84, b85, c86, h, pq⟩
   refine pn pq ?_
   rw [gl_el9_1] at h
   exact cls
  rintro x88 l89 k87 t o hlt hx93 hw hd ⟨v82, v84, b85, c86, h, pq⟩
  refine pn pq ?_
  rw [gl_el9_1] at h
  try (refine gx ?_; intros; rename_i h)
  obtain ⟨q100, hq, h⟩ := bnd h
  refine w_cutK [0, 3, 7] [24] (fun K J t o => ∃ b107 c108, PP ((5, .ref 64 b107 c108 0 q100.2.length 100) :: (6, .v (.bool q100.1)) :: K) ((64, ent b107 c108 100 (List.map (eFeat false) q100.2)) :: J) t o) ?_ ?_
  ·have h := hq
   exact cls
  rintro t o ⟨b107, c108, pq⟩
  refine pn pq ?_
  exact cls
 rintro t o ⟨b115, c116, pq⟩
 refine pnq pq ?_
 exact cls
theorem d_en9 : OkC [c_el9] c_en9 if_en9 ks_en9 := by
 refine ok fun G H ⟨a0, a1⟩ r h => ?_
 refine st1 fun bs t o => ?_
 dsimp only [gf_en9] at h
 try (refine gx ?_; intros; rename_i h)
 obtain ⟨hf, h⟩ := gd h
 obtain ⟨q21, hq, h⟩ := bnd h
 refine w_lastK [] [] (fun K J t o => PP ((5, .ro (List.map (eFeat false) q21)) :: K) J t o) ?_ ?_
 ·refine w_lpL (xs := a1) [1] [] 0 hf (fun K J l26 k24 t o => ∃ v22, gl_en9_1 l26 k24 v22 = some q21 ∧ PP ((5, .ro (List.map (eFeat false) v22)) :: (6, .v (.int .i64 (k24 : Int))) :: K) J t o) ?_ ?_ ?_
  ·exact ⟨_, hq, pin, pinh⟩
  ·rintro k24 t o hlt ⟨v22, h, pq⟩
   refine pn pq ?_
   rw [gl_en9_1] at h
   exact cls
  rintro x25 l26 k24 t o hlt hx30 hw hd ⟨v22, h, pq⟩
  refine pn pq ?_
  rw [gl_en9_1] at h
  exact cls
 rintro t o pq
 refine pnq pq ?_
 try (refine gx ?_; intros; rename_i h)
 obtain ⟨hf, h⟩ := gd h
 obtain ⟨q61, hq, h⟩ := bnd h
 refine w_lastK [] [] (fun K J t o => ∃ b80 c81, PP ((7, .ref 176 b80 c81 0 q61.length 49) :: K) ((176, ent b80 c81 49 (List.map eStr q61)) :: J) t o) ?_ ?_
 ·refine w_lpL (xs := q21) [5] [] 0 hf (fun K J l68 k66 t o => ∃ v63 b64 c65, gl_en9_2 l68 k66 v63 = some q61 ∧ PP ((7, .ref 176 b64 c65 0 v63.length 49) :: (8, .v (.int .i64 (k66 : Int))) :: K) ((176, ent b64 c65 49 (List.map eStr v63)) :: J) t o) ?_ ?_ ?_
  ·exact ⟨_, _, _, hq, pin, pinh⟩
  ·rintro k66 t o hlt ⟨v63, b64, c65, h, pq⟩
   refine pn pq ?_
   rw [gl_en9_2] at h
   exact cls
  rintro x67 l68 k66 t o hlt hx72 hw hd ⟨v63, b64, c65, h, pq⟩
  refine pn pq ?_
  rw [gl_en9_2] at h
  exact cls
 rintro t o ⟨b80, c81, pq⟩
 refine pnq pq ?_
 exact cls
theorem d_ek9 : OkC [] c_ek9 if_ek9 ks_ek9 := by
 refine ok fun G H ⟨a0, a1⟩ r h => ?_
 refine st1 fun bs t o => ?_
 dsimp only [gf_ek9] at h
 try (refine gx ?_; intros; rename_i h)
 obtain ⟨hf, h⟩ := gd h
 obtain ⟨q8, hq, h⟩ := bnd h
 refine w_lastK [] [] (fun K J t o => ∃ q8_, q8 = .inr q8_ ∧ PP K J t o) ?_ ?_
 ·have ho1 := h
  refine w_lpL (xs := a0) [0, 1] [] 0 hf (fun K J l12 k10 t o => gl_ek9_1 a1 l12 k10  = some q8 ∧ PP ((5, .v (.int .i64 (k10 : Int))) :: K) J t o) ?_ ?_ ?_
  ·exact ⟨hq, pin, pinh⟩
  ·rintro k10 t o hlt ⟨h, pq⟩
   refine pn pq ?_
   rw [gl_ek9_1] at h
   exact cls
  rintro x11 l12 k10 t o hlt hx16 hw hd ⟨h, pq⟩
  refine pn pq ?_
  rw [gl_ek9_1] at h
  exact cls
 rintro t o ⟨q8, rfl, pq⟩
 refine pnq pq ?_
 exact cls
theorem d_ep9 : OkC [c_ek9, c_eh9] c_ep9 if_ep9 ks_ep9 := by
 refine ok fun G H ⟨a0, a1⟩ r h => ?_
 refine st1 fun bs t o => ?_
 dsimp only [gf_ep9] at h
 exact cls
theorem d_cz9 : OkC [] c_cz9 if_cz9 ks_cz9 := by
 refine ok fun G H a0 r h => ?_
 refine st1 fun bs t o => ?_
 dsimp only [gf_cz9] at h
 exact cls
theorem d_da9 : OkC [c_cz9] c_da9 if_da9 ks_da9 := by
 refine ok fun G H a0 r h => ?_
 refine st1 fun bs t o => ?_
 dsimp only [gf_da9] at h
 refine gx fun h3 => ?_; intros; rename_i h
 obtain ⟨hf, h⟩ := gd h
 obtain ⟨q26, hq, h⟩ := bnd h
 refine w_lastK [] [] (fun K J t o => ∃ b45 c46, PP ((3, .ref 56 b45 c46 0 q26.length 66) :: K) ((56, ent b45 c46 66 (List.map ePt q26)) :: J) t o) ?_ ?_
 ·refine w_lpL (xs := a0) [0] [] 0 hf (fun K J l33 k31 t o => ∃ v28 b29 c30, gl_da9_1 l33 k31 v28 = some q26 ∧ PP ((3, .ref 56 b29 c30 0 v28.length 66) :: (4, .v (.int .i64 (k31 : Int))) :: K) ((56, ent b29 c30 66 (List.map ePt v28)) :: J) t o) ?_ ?_ ?_
  ·exact ⟨_, _, _, hq, pin, pinh⟩
  ·rintro k31 t o hlt ⟨v28, b29, c30, h, pq⟩
   refine pn pq ?_
   rw [gl_da9_1] at h
   exact cls
  rintro x32 l33 k31 t o hlt hx37 hw hd ⟨v28, b29, c30, h, pq⟩
  refine pn pq ?_
  rw [gl_da9_1] at h
  refine gx fun x40 h41 x42 h43 => ?_; intros; rename_i h
  refine c_ste (f := ePt) v28 x40 (idx_get h43).2 ?_
  exact cls
 rintro t o ⟨b45, c46, pq⟩
 refine pnq pq ?_
 exact cls
theorem d_dd9 : OkC [] c_dd9 if_dd9 ks_dd9 := by
 refine ok fun G H a0 r h => ?_
 refine st1 fun bs t o => ?_
 dsimp only [gf_dd9] at h
 exact cls
theorem d_dc9 : OkC [c_da9] c_dc9 if_dc9 ks_dc9 := by
 refine ok fun G H a0 r h => ?_
 refine st1 fun bs t o => ?_
 dsimp only [gf_dc9] at h
 exact cls
theorem d_de9 : OkC [c_dd9] c_de9 if_de9 ks_de9 := by
 refine ok fun G H a0 r h => ?_
 refine st1 fun bs t o => ?_
 dsimp only [gf_de9] at h
 refine gx fun h3 => ?_; intros; rename_i h
 obtain ⟨hf, h⟩ := gd h
 obtain ⟨q26, hq, h⟩ := bnd h
 refine w_lastK [] [] (fun K J t o => ∃ b45 c46, PP ((3, .ref 56 b45 c46 0 q26.length 82) :: K) ((56, ent b45 c46 82 (List.map eTag q26)) :: J) t o) ?_ ?_
 ·refine w_lpL (xs := a0) [0] [] 0 hf (fun K J l33 k31 t o => ∃ v28 b29 c30, gl_de9_1 l33 k31 v28 = some q26 ∧ PP ((3, .ref 56 b29 c30 0 v28.length 82) :: (4, .v (.int .i64 (k31 : Int))) :: K) ((56, ent b29 c30 82 (List.map eTag v28)) :: J) t o) ?_ ?_ ?_
  ·exact ⟨_, _, _, hq, pin, pinh⟩
  ·rintro k31 t o hlt ⟨v28, b29, c30, h, pq⟩
   refine pn pq ?_
   rw [gl_de9_1] at h
   exact cls
  rintro x32 l33 k31 t o hlt hx37 hw hd ⟨v28, b29, c30, h, pq⟩
  refine pn pq ?_
  rw [gl_de9_1] at h
  refine gx fun x40 h41 x42 h43 => ?_; intros; rename_i h
  refine c_ste (f := eTag) v28 x40 (idx_get h43).2 ?_
  exact cls
 rintro t o ⟨b45, c46, pq⟩
 refine pnq pq ?_
 exact cls
theorem d_cu9 : OkC [c_dc9, c_de9] c_cu9 if_cu9 ks_cu9 := by
 refine ok fun G H a0 r h => ?_
 refine st1 fun bs t o => ?_
 dsimp only [gf_cu9] at h
 try (refine gx ?_; intros; rename_i h)
 obtain ⟨q4, hq, h⟩ := bnd h
 refine w_cutK [1, 2] [8, 1000258, 1000259, 16] (fun K J t o => ∃ b10 c11 b13, PP ((3, .ptr 24 b13 100 0 0) :: K) ((1000386, ent b10 c11 66 (List.map ePt q4.1)) :: (1000387, ent none 0 82 (List.map eTag [])) :: (24, ⟨b13, 1, 100, true, [[.v (.string a0.id), .v (.int .i64 q4.2), .al 1000386 b10 c11 0 q4.1.length 66, .al 1000387 none 0 0 ([] : List Tag).length 82]]⟩) :: J) t o) ?_ ?_
 ·have h := hq
  exact cls
 rintro t o ⟨b10, c11, b13, pq⟩
 refine pn pq ?_
 exact cls
theorem d_cy9 : OkC [] c_cy9 if_cy9 ks_cy9 := by
 refine ok fun G H a0 r h => ?_
 refine st1 fun bs t o => ?_
 dsimp only [gf_cy9] at h
 refine gx fun h3 => ?_; intros; rename_i h
 obtain ⟨hf, h⟩ := gd h
 obtain ⟨q20, hq, h⟩ := bnd h
 refine w_lastK [] [] (fun K J t o => ∃ b37 c38, PP ((3, .ref 56 b37 c38 0 q20.length 17) :: K) ((56, ent b37 c38 17 (List.map eInt q20)) :: J) t o) ?_ ?_
 ·refine w_lpL (xs := a0) [0] [] 0 hf (fun K J l27 k25 t o => ∃ v22 b23 c24, gl_cy9_1 l27 k25 v22 = some q20 ∧ PP ((3, .ref 56 b23 c24 0 v22.length 17) :: (4, .v (.int .i64 (k25 : Int))) :: K) ((56, ent b23 c24 17 (List.map eInt v22)) :: J) t o) ?_ ?_ ?_
  ·exact ⟨_, _, _, hq, pin, pinh⟩
  ·rintro k25 t o hlt ⟨v22, b23, c24, h, pq⟩
   refine pn pq ?_
   rw [gl_cy9_1] at h
   exact cls
  rintro x26 l27 k25 t o hlt hx31 hw hd ⟨v22, b23, c24, h, pq⟩
  refine pn pq ?_
  rw [gl_cy9_1] at h
  refine gx fun x34 h35 => ?_; intros; rename_i h
  refine c_ste (f := eInt) v22 x26 (idx_get h35).2 ?_
  exact cls
 rintro t o ⟨b37, c38, pq⟩
 refine pnq pq ?_
 exact cls
theorem d_cv9 : OkC [c_cu9] c_cv9 if_cv9 ks_cv9 := by
 refine ok fun G H a0 r h => ?_
 refine st1 fun bs t o => ?_
 dsimp only [gf_cv9] at h
 refine gx fun h3 => ?_; intros; rename_i h
 obtain ⟨hf, h⟩ := gd h
 obtain ⟨q38, hq, h⟩ := bnd h
 refine w_lastK [] [] (fun K J t o => ∃ b61 c62, PP ((3, .ref 56 b61 c62 0 q38.length 100) :: K) ((56, ent b61 c62 100 (List.map (eFeat true) q38)) :: J) t o) ?_ ?_
 ·refine w_lpL (xs := a0) [0] [] 0 hf (fun K J l45 k43 t o => ∃ v40 b41 c42, gl_cv9_1 l45 k43 v40 = some q38 ∧ PP ((3, .ref 56 b41 c42 0 v40.length 100) :: (4, .v (.int .i64 (k43 : Int))) :: K) ((56, ent b41 c42 100 (List.map (eFeat true) v40)) :: J) t o) ?_ ?_ ?_
  ·exact ⟨_, _, _, hq, pin, pinh⟩
  ·rintro k43 t o hlt ⟨v40, b41, c42, h, pq⟩
   refine pn pq ?_
   rw [gl_cv9_1] at h
   exact cls
  rintro x44 l45 k43 t o hlt hx49 hw hd ⟨v40, b41, c42, h, pq⟩
  refine pn pq ?_
  rw [gl_cv9_1] at h
  refine gx fun x52 h53 x58 h59 => ?_; intros; rename_i h
  refine c_ste (f := (eFeat true)) v40 x52 (idx_get h59).2 ?_
  exact cls
 rintro t o ⟨b61, c62, pq⟩
 refine pnq pq ?_
 exact cls
end Go.Proofs.AM
