/- Lemmas of the proof (QCF4), on an abstract machine. Conditions: none. -/
import Derived.Test.YtodmjmkakgamlaaGreatQCD
set_option linter.unusedVariables false
set_option maxRecDepth 100000
set_option maxHeartbeats 4000000
namespace Go.Proofs.AM
attribute [local irreducible] vwp vstps vstpLs vstp vdo vret kseq kblk kloop kend kcut kloop2 frzV renV shutK pfzV trnV unrV
theorem d_ch9 : OkC [c_cn9, c_ck9, c_cm9] c_ch9 if_ch9 ks_ch9 := by
 refine ok fun G H ⟨a0, a1⟩ r h => ?_
 have H_ck9 := H _ (.tail _ (.head _))
 have H_cm9 := H _ (.tail _ (.tail _ (.head _)))
 replace H := hpre 1 H
 refine st1 fun bs t o => ?_
 dsimp only [gf_ch9] at h
 try (refine gx ?_; intros; rename_i h)
 obtain ⟨q58, hq, h⟩ := bnd h
 refine w_lastK [] [] (fun K J t o => PP ((1, .v (.int .i64 q58.1)) :: K) ((0, ent (bs 0).1 (bs 0).2 100 (List.map (eFeat true) q58.2)) :: J) t o) ?_ ?_
 ·refine w_lpF [] [] (fun K J n62 t o => ∃ v59 v60 v61, gl_ch9_1 n62 v59 v60 v61 = some q58 ∧ PP ((0, .ref 0 (bs 0).1 (bs 0).2 0 v61.length 100) :: (1, .v (.int .i64 v59)) :: (5, .v (.int .i64 v60)) :: K) ((0, ent (bs 0).1 (bs 0).2 100 (List.map (eFeat true) v61)) :: J) t o) ?_ ?_
  ·exact ⟨_, _, _, hq, pin, pinh⟩
  rintro n62 t o ⟨v59, v60, v61, h, pq⟩
  refine pn pq ?_
  cases n62 with
  | zero => rw [gl_ch9_1] at h; cases h
  | succ n62 =>
   rw [gl_ch9_1] at h
   refine gx fun x63 h64 x65 h66 => ?_; intros; rename_i h
   refine c_ste (f := (eFeat true)) v61 (⟨x63, x65.shape, x65.tags⟩ : Feat) (idx_get h66).2 ?_
   refine gx fun x67 h68 => ?_; intros; rename_i h
   refine c_ste (f := (eFeat true)) (List.set v61 v60.toNat (⟨x63, x65.shape, x65.tags⟩ : Feat)) (⟨x67.id, ⟨(IntKind.i64.wrap (v59 + 1)), x67.shape.pts⟩, x67.tags⟩ : Feat) (idx_get h68).2 ?_
   refine gx fun x69 h70 => ?_; intros; rename_i h
   refine r_lopg (f := (eFeat true)) (g := ePt) (xs := (List.set (List.set v61 v60.toNat (⟨x63, x65.shape, x65.tags⟩ : Feat)) v60.toNat (⟨x67.id, ⟨(IntKind.i64.wrap (v59 + 1)), x67.shape.pts⟩, x67.tags⟩ : Feat))) (x := x69) (ys := x69.shape.pts) (idx_get h70).2 rfl rfl rfl fun b71 c72 => ?_
   try (refine gx ?_; intros; rename_i h)
   obtain ⟨x73, h74, h⟩ := bnd h
   have L74 := l_ck9 h74; (try dsimp only at L74); (first | replace L74 := And.intro L74.1.symm L74.2.symm | replace L74 := L74.symm); (try obtain ⟨L74, M74⟩ := L74); refine c_callg (c := c_ck9) (x69.shape.pts, (IntKind.i64.wrap ((IntKind.i64.wrap (v59 + 1)) + 1))) H_ck9 h74 fun ch => ?_
   try (refine gx ?_; intros; rename_i h)
   refine c_shg (f := (eFeat true)) (⟨x69.id, ⟨x69.shape.kind, x73.2⟩, x69.tags⟩ : Feat) (idx_get h70).2 ?_
   refine gx fun x75 h76 => ?_; intros; rename_i h
   refine r_lopg (f := (eFeat true)) (g := eTag) (xs := (List.set (List.set (List.set v61 v60.toNat (⟨x63, x65.shape, x65.tags⟩ : Feat)) v60.toNat (⟨x67.id, ⟨(IntKind.i64.wrap (v59 + 1)), x67.shape.pts⟩, x67.tags⟩ : Feat)) v60.toNat (⟨x69.id, ⟨x69.shape.kind, x73.2⟩, x69.tags⟩ : Feat))) (x := x75) (ys := x75.tags) (idx_get h76).2 rfl rfl rfl fun b77 c78 => ?_
   try (refine gx ?_; intros; rename_i h)
   obtain ⟨x79, h80, h⟩ := bnd h
   have L80 := l_cm9 h80; (try dsimp only at L80); (first | replace L80 := And.intro L80.1.symm L80.2.symm | replace L80 := L80.symm); (try obtain ⟨L80, M80⟩ := L80); refine c_callg (c := c_cm9) (x75.tags, x73.1) H_cm9 h80 fun ch => ?_
   try (refine gx ?_; intros; rename_i h)
   refine c_shg (f := (eFeat true)) (⟨x75.id, x75.shape, x79.2⟩ : Feat) (idx_get h76).2 ?_
   exact cls
 rintro t o pq
 refine pnq pq ?_
 exact cls
theorem d_cf9 : OkC [c_cn9, c_cj9, c_ch9] c_cf9 if_cf9 ks_cf9 := by
 refine ok fun G H ⟨a0, a1⟩ r h => ?_
 have H_cj9 := H _ (.tail _ (.head _))
 have H_ch9 := H _ (.tail _ (.tail _ (.head _)))
 replace H := hpre 1 H
 refine st1 fun bs t o => ?_
 dsimp only [gf_cf9] at h
 try (refine gx ?_; intros; rename_i h)
 obtain ⟨q52, hq, h⟩ := bnd h
 refine w_lastK [] [] (fun K J t o => PP ((1, .v (.int .i64 q52.1)) :: K) ((0, ent (bs 0).1 (bs 0).2 115 (List.map (eCommit true) q52.2)) :: J) t o) ?_ ?_
 ·refine w_lpF [] [] (fun K J n56 t o => ∃ v53 v54 v55, gl_cf9_1 n56 v53 v54 v55 = some q52 ∧ PP ((0, .ref 0 (bs 0).1 (bs 0).2 0 v55.length 115) :: (1, .v (.int .i64 v53)) :: (5, .v (.int .i64 v54)) :: K) ((0, ent (bs 0).1 (bs 0).2 115 (List.map (eCommit true) v55)) :: J) t o) ?_ ?_
  ·exact ⟨_, _, _, hq, pin, pinh⟩
  rintro n56 t o ⟨v53, v54, v55, h, pq⟩
  refine pn pq ?_
  cases n56 with
  | zero => rw [gl_cf9_1] at h; cases h
  | succ n56 =>
   rw [gl_cf9_1] at h
   refine gx fun x57 h58 => ?_; intros; rename_i h
   refine r_lopg (f := (eCommit true)) (g := eInt) (xs := v55) (x := x57) (ys := x57.up) (idx_get h58).2 rfl rfl rfl fun b59 c60 => ?_
   try (refine gx ?_; intros; rename_i h)
   obtain ⟨x61, h62, h⟩ := bnd h
   have L62 := l_cj9 h62; (try dsimp only at L62); (first | replace L62 := And.intro L62.1.symm L62.2.symm | replace L62 := L62.symm); (try obtain ⟨L62, M62⟩ := L62); refine c_callg (c := c_cj9) (x57.up, v53) H_cj9 h62 fun ch => ?_
   try (refine gx ?_; intros; rename_i h)
   refine c_shg (f := (eCommit true)) (⟨x61.2, x57.sheet, x57.note⟩ : Commit) (idx_get h58).2 ?_
   refine gx fun x63 h64 => ?_; intros; rename_i h
   refine r_lopg (f := (eCommit true)) (g := (eFeat true)) (xs := (List.set v55 v54.toNat (⟨x61.2, x57.sheet, x57.note⟩ : Commit))) (x := x63) (ys := x63.sheet) (idx_get h64).2 rfl rfl rfl fun b65 c66 => ?_
   try (refine gx ?_; intros; rename_i h)
   obtain ⟨x67, h68, h⟩ := bnd h
   have L68 := l_ch9 h68; (try dsimp only at L68); (first | replace L68 := And.intro L68.1.symm L68.2.symm | replace L68 := L68.symm); (try obtain ⟨L68, M68⟩ := L68); refine c_callg (c := c_ch9) (x63.sheet, x61.1) H_ch9 h68 fun ch => ?_
   try (refine gx ?_; intros; rename_i h)
   refine c_shg (f := (eCommit true)) (⟨x63.up, x67.2, x63.note⟩ : Commit) (idx_get h64).2 ?_
   refine gx fun x69 h70 x71 h72 => ?_; intros; rename_i h
   refine c_ste (f := (eCommit true)) (List.set (List.set v55 v54.toNat (⟨x61.2, x57.sheet, x57.note⟩ : Commit)) v54.toNat (⟨x63.up, x67.2, x63.note⟩ : Commit)) (⟨x71.up, x71.sheet, x69⟩ : Commit) (idx_get h72).2 ?_
   exact cls
 rintro t o pq
 refine pnq pq ?_
 exact cls
theorem d_ci9 : OkC [c_cn9] c_ci9 if_ci9 ks_ci9 := by
 refine ok fun G H ⟨a0, a1⟩ r h => ?_
 refine st1 fun bs t o => ?_
 dsimp only [gf_ci9] at h
 try (refine gx ?_; intros; rename_i h)
 obtain ⟨q22, hq, h⟩ := bnd h
 refine w_lastK [] [] (fun K J t o => PP ((1, .v (.int .i64 q22.1)) :: K) ((0, ent (bs 0).1 (bs 0).2 130 (List.map eHead q22.2)) :: J) t o) ?_ ?_
 ·refine w_lpF [] [] (fun K J n26 t o => ∃ v23 v24 v25, gl_ci9_1 n26 v23 v24 v25 = some q22 ∧ PP ((0, .ref 0 (bs 0).1 (bs 0).2 0 v25.length 130) :: (1, .v (.int .i64 v23)) :: (5, .v (.int .i64 v24)) :: K) ((0, ent (bs 0).1 (bs 0).2 130 (List.map eHead v25)) :: J) t o) ?_ ?_
  ·exact ⟨_, _, _, hq, pin, pinh⟩
  rintro n26 t o ⟨v23, v24, v25, h, pq⟩
  refine pn pq ?_
  cases n26 with
  | zero => rw [gl_ci9_1] at h; cases h
  | succ n26 =>
   rw [gl_ci9_1] at h
   refine gx fun x27 h28 x29 h30 => ?_; intros; rename_i h
   refine c_ste (f := eHead) v25 (⟨x27, x29.at_⟩ : Head) (idx_get h30).2 ?_
   refine gx fun x31 h32 => ?_; intros; rename_i h
   refine c_ste (f := eHead) (List.set v25 v24.toNat (⟨x27, x29.at_⟩ : Head)) (⟨x31.name, (IntKind.i64.wrap (v23 + 1))⟩ : Head) (idx_get h32).2 ?_
   exact cls
 rintro t o pq
 refine pnq pq ?_
 exact cls
theorem d_cb9 : OkC [] c_cb9 if_cb9 ks_cb9 := by
 refine ok fun G H ⟨a0, a1⟩ r h => ?_
 refine st1 fun bs t o => ?_
 dsimp only [gf_cb9] at h
 try (refine gx ?_; intros; rename_i h)
 obtain ⟨hf, h⟩ := gd h
 obtain ⟨q9, hq, h⟩ := bnd h
 refine w_lastK [] [] (fun K J t o => ∃ q9_, q9 = .inr q9_ ∧ PP ((1, .v (.int .i64 q9_)) :: K) J t o) ?_ ?_
 ·have ho1 := h
  refine w_lpL (xs := a0) [0] [] 0 hf (fun K J l14 k12 t o => ∃ v10, gl_cb9_1 l14 k12 v10 = some q9 ∧ PP ((1, .v (.int .i64 v10)) :: (5, .v (.int .i64 (k12 : Int))) :: K) J t o) ?_ ?_ ?_
  ·exact ⟨_, hq, pin, pinh⟩
  ·rintro k12 t o hlt ⟨v10, h, pq⟩
   refine pn pq ?_
   rw [gl_cb9_1] at h
   exact cls
  rintro x13 l14 k12 t o hlt hx18 hw hd ⟨v10, h, pq⟩
  refine pn pq ?_
  rw [gl_cb9_1] at h
  exact cls
 rintro t o ⟨q9, rfl, pq⟩
 refine pnq pq ?_
 exact cls
theorem d_cd9 : OkC [c_cn9] c_cd9 if_cd9 ks_cd9 := by
 refine ok fun G H ⟨a0, a1⟩ r h => ?_
 refine st1 fun bs t o => ?_
 dsimp only [gf_cd9] at h
 try (refine gx ?_; intros; rename_i h)
 obtain ⟨hf, h⟩ := gd h
 obtain ⟨q21, hq, h⟩ := bnd h
 refine w_lastK [] [] (fun K J t o => ∃ q21_, q21 = .inr q21_ ∧ PP ((1, .v (.int .i64 q21_)) :: K) J t o) ?_ ?_
 ·have ho1 := h
  refine w_lpL (xs := a0) [0] [] 0 hf (fun K J l26 k24 t o => ∃ v22, gl_cd9_1 l26 k24 v22 = some q21 ∧ PP ((1, .v (.int .i64 v22)) :: (5, .v (.int .i64 (k24 : Int))) :: K) J t o) ?_ ?_ ?_
  ·exact ⟨_, hq, pin, pinh⟩
  ·rintro k24 t o hlt ⟨v22, h, pq⟩
   refine pn pq ?_
   rw [gl_cd9_1] at h
   exact cls
  rintro x25 l26 k24 t o hlt hx30 hw hd ⟨v22, h, pq⟩
  refine pn pq ?_
  rw [gl_cd9_1] at h
  exact cls
 rintro t o ⟨q21, rfl, pq⟩
 refine pnq pq ?_
 exact cls
theorem d_ca9 : OkC [] c_ca9 if_ca9 ks_ca9 := by
 refine ok fun G H ⟨a0, a1⟩ r h => ?_
 refine st1 fun bs t o => ?_
 dsimp only [gf_ca9] at h
 try (refine gx ?_; intros; rename_i h)
 obtain ⟨hf, h⟩ := gd h
 obtain ⟨q11, hq, h⟩ := bnd h
 refine w_lastK [] [] (fun K J t o => ∃ q11_, q11 = .inr q11_ ∧ PP ((1, .v (.int .i64 q11_)) :: K) J t o) ?_ ?_
 ·have ho1 := h
  refine w_lpL (xs := a0) [0] [] 0 hf (fun K J l16 k14 t o => ∃ v12, gl_ca9_1 l16 k14 v12 = some q11 ∧ PP ((1, .v (.int .i64 v12)) :: (5, .v (.int .i64 (k14 : Int))) :: K) J t o) ?_ ?_ ?_
  ·exact ⟨_, hq, pin, pinh⟩
  ·rintro k14 t o hlt ⟨v12, h, pq⟩
   refine pn pq ?_
   rw [gl_ca9_1] at h
   exact cls
  rintro x15 l16 k14 t o hlt hx20 hw hd ⟨v12, h, pq⟩
  refine pn pq ?_
  rw [gl_ca9_1] at h
  exact cls
 rintro t o ⟨q11, rfl, pq⟩
 refine pnq pq ?_
 exact cls
theorem d_by9 : OkC [c_cn9, c_cb9, c_cd9] c_by9 if_by9 ks_by9 := by
 refine ok fun G H ⟨a0, a1⟩ r h => ?_
 refine st1 fun bs t o => ?_
 dsimp only [gf_by9] at h
 try (refine gx ?_; intros; rename_i h)
 obtain ⟨hf, h⟩ := gd h
 obtain ⟨q27, hq, h⟩ := bnd h
 refine w_lastK [] [] (fun K J t o => ∃ q27_, q27 = .inr q27_ ∧ PP ((1, .v (.int .i64 q27_)) :: K) J t o) ?_ ?_
 ·have ho1 := h
  refine w_lpL (xs := a0) [0] [] 0 hf (fun K J l32 k30 t o => ∃ v28, gl_by9_1 l32 k30 v28 = some q27 ∧ PP ((1, .v (.int .i64 v28)) :: (5, .v (.int .i64 (k30 : Int))) :: K) J t o) ?_ ?_ ?_
  ·exact ⟨_, hq, pin, pinh⟩
  ·rintro k30 t o hlt ⟨v28, h, pq⟩
   refine pn pq ?_
   rw [gl_by9_1] at h
   exact cls
  rintro x31 l32 k30 t o hlt hx36 hw hd ⟨v28, h, pq⟩
  refine pn pq ?_
  rw [gl_by9_1] at h
  exact cls
 rintro t o ⟨q27, rfl, pq⟩
 refine pnq pq ?_
 exact cls
theorem d_bx9 : OkC [c_ca9, c_by9, c_cn9] c_bx9 if_bx9 ks_bx9 := by
 refine ok fun G H ⟨a0, a1⟩ r h => ?_
 refine st1 fun bs t o => ?_
 dsimp only [gf_bx9] at h
 try (refine gx ?_; intros; rename_i h)
 obtain ⟨hf, h⟩ := gd h
 obtain ⟨q27, hq, h⟩ := bnd h
 refine w_lastK [] [] (fun K J t o => ∃ q27_, q27 = .inr q27_ ∧ PP ((1, .v (.int .i64 q27_)) :: K) J t o) ?_ ?_
 ·have ho1 := h
  refine w_lpL (xs := a0) [0] [] 0 hf (fun K J l32 k30 t o => ∃ v28, gl_bx9_1 l32 k30 v28 = some q27 ∧ PP ((1, .v (.int .i64 v28)) :: (5, .v (.int .i64 (k30 : Int))) :: K) J t o) ?_ ?_ ?_
  ·exact ⟨_, hq, pin, pinh⟩
  ·rintro k30 t o hlt ⟨v28, h, pq⟩
   refine pn pq ?_
   rw [gl_bx9_1] at h
   exact cls
  rintro x31 l32 k30 t o hlt hx36 hw hd ⟨v28, h, pq⟩
  refine pn pq ?_
  rw [gl_bx9_1] at h
  exact cls
 rintro t o ⟨q27, rfl, pq⟩
 refine pnq pq ?_
 exact cls
theorem d_bz9 : OkC [c_cn9] c_bz9 if_bz9 ks_bz9 := by
 refine ok fun G H ⟨a0, a1⟩ r h => ?_
 refine st1 fun bs t o => ?_
 dsimp only [gf_bz9] at h
 try (refine gx ?_; intros; rename_i h)
 obtain ⟨hf, h⟩ := gd h
 obtain ⟨q15, hq, h⟩ := bnd h
 refine w_lastK [] [] (fun K J t o => ∃ q15_, q15 = .inr q15_ ∧ PP ((1, .v (.int .i64 q15_)) :: K) J t o) ?_ ?_
 ·have ho1 := h
  refine w_lpL (xs := a0) [0] [] 0 hf (fun K J l20 k18 t o => ∃ v16, gl_bz9_1 l20 k18 v16 = some q15 ∧ PP ((1, .v (.int .i64 v16)) :: (5, .v (.int .i64 (k18 : Int))) :: K) J t o) ?_ ?_ ?_
  ·exact ⟨_, hq, pin, pinh⟩
  ·rintro k18 t o hlt ⟨v16, h, pq⟩
   refine pn pq ?_
   rw [gl_bz9_1] at h
   exact cls
  rintro x19 l20 k18 t o hlt hx24 hw hd ⟨v16, h, pq⟩
  refine pn pq ?_
  rw [gl_bz9_1] at h
  exact cls
 rintro t o ⟨q15, rfl, pq⟩
 refine pnq pq ?_
 exact cls
theorem d_bt9 : OkC [c_bj9, c_bp9] c_bt9 if_bt9 ks_bt9 := by
 refine ok fun G H ⟨a0, a1⟩ r h => ?_
 refine st1 fun bs t o => ?_
 dsimp only [gf_bt9] at h
 exact cls
theorem d_cl9 : OkC [c_cf9, c_ci9] c_cl9 if_cl9 ks_cl9 := by
 refine ok fun G H ⟨a0, a1⟩ r h => ?_
 have H_cf9 := H _ (.head _)
 have H_ci9 := H _ (.tail _ (.head _))
 replace H := hpre 0 H
 refine st1 fun bs t o => ?_
 dsimp only [gf_cl9] at h
 try (refine gx ?_; intros; rename_i h)
 obtain ⟨x2, h3, h⟩ := bnd h
 have L3 := l_cf9 h3; (try dsimp only at L3); (first | replace L3 := And.intro L3.1.symm L3.2.symm | replace L3 := L3.symm); (try obtain ⟨L3, M3⟩ := L3); refine c_callg (c := c_cf9) (a0.commits, a1) H_cf9 h3 fun ch => ?_
 try (refine gx ?_; intros; rename_i h)
 obtain ⟨x4, h5, h⟩ := bnd h
 have L5 := l_ci9 h5; (try dsimp only at L5); (first | replace L5 := And.intro L5.1.symm L5.2.symm | replace L5 := L5.symm); (try obtain ⟨L5, M5⟩ := L5); refine c_callg (c := c_ci9) (a0.heads, x2.1) H_ci9 h5 fun ch => ?_
 exact cls
end Go.Proofs.AM
