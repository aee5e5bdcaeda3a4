/- Lemmas of the proof (QBF4), on an abstract machine. Conditions: none. -/
import Derived.Test.YtodmjmkakgamlaaGreatQBD
set_option linter.unusedVariables false
set_option maxRecDepth 100000
set_option maxHeartbeats 4000000
namespace Go.Proofs.AM
attribute [local irreducible] vwp vstps vstpLs vstp vdo vret kseq kblk kloop kend kcut kloop2 frzV renV shutK pfzV trnV unrV
theorem d_bg9 : OkC [c_bo9, c_bq9] c_bg9 if_bg9 ks_bg9 := by
 refine ok fun G H ⟨a0, a1⟩ r h => ?_
 refine st1 fun bs t o => ?_
 dsimp only [gf_bg9] at h
 exact cls
theorem d_bk9 : OkC [] c_bk9 if_bk9 ks_bk9 := by
 refine ok fun G H ⟨a0, a1⟩ r h => ?_
 refine st1 fun bs t o => ?_
 dsimp only [gf_bk9] at h
 try (refine gx ?_; intros; rename_i h)
 obtain ⟨hf, h⟩ := gd h
 obtain ⟨q14, hq, h⟩ := bnd h
 refine w_lastK [] [] (fun K J t o => ∃ q14_, q14 = .inr q14_ ∧ PP K J t o) ?_ ?_
 ·have ho1 := h
  refine w_lpL (xs := a0) [0, 1] [] 0 hf (fun K J l18 k16 t o => gl_bk9_1 a1 l18 k16  = some q14 ∧ PP ((5, .v (.int .i64 (k16 : Int))) :: K) J t o) ?_ ?_ ?_
  ·exact ⟨hq, pin, pinh⟩
  ·rintro k16 t o hlt ⟨h, pq⟩
   refine pn pq ?_
   rw [gl_bk9_1] at h
   exact cls
  rintro x17 l18 k16 t o hlt hx22 hw hd ⟨h, pq⟩
  refine pn pq ?_
  rw [gl_bk9_1] at h
  exact cls
 rintro t o ⟨q14, rfl, pq⟩
 refine pnq pq ?_
 exact cls
theorem d_bh9 : OkC [c_bg9] c_bh9 if_bh9 ks_bh9 := by
 refine ok fun G H ⟨a0, a1⟩ r h => ?_
 refine st1 fun bs t o => ?_
 dsimp only [gf_bh9] at h
 try (refine gx ?_; intros; rename_i h)
 obtain ⟨hf, h⟩ := gd h
 obtain ⟨q20, hq, h⟩ := bnd h
 refine w_lastK [] [] (fun K J t o => ∃ q20_, q20 = .inr q20_ ∧ PP K J t o) ?_ ?_
 ·have ho1 := h
  refine w_lpL (xs := a0) [0, 1] [] 0 hf (fun K J l24 k22 t o => gl_bh9_1 a1 l24 k22  = some q20 ∧ PP ((5, .v (.int .i64 (k22 : Int))) :: K) J t o) ?_ ?_ ?_
  ·exact ⟨hq, pin, pinh⟩
  ·rintro k22 t o hlt ⟨h, pq⟩
   refine pn pq ?_
   rw [gl_bh9_1] at h
   exact cls
  rintro x23 l24 k22 t o hlt hx28 hw hd ⟨h, pq⟩
  refine pn pq ?_
  rw [gl_bh9_1] at h
  exact cls
 rintro t o ⟨q20, rfl, pq⟩
 refine pnq pq ?_
 exact cls
theorem d_bc9 : OkC [c_bk9, c_bh9] c_bc9 if_bc9 ks_bc9 := by
 refine ok fun G H ⟨a0, a1⟩ r h => ?_
 refine st1 fun bs t o => ?_
 dsimp only [gf_bc9] at h
 exact cls
theorem d_bi9 : OkC [] c_bi9 if_bi9 ks_bi9 := by
 refine ok fun G H ⟨a0, a1⟩ r h => ?_
 refine st1 fun bs t o => ?_
 dsimp only [gf_bi9] at h
 exact cls
theorem d_bd9 : OkC [c_bc9] c_bd9 if_bd9 ks_bd9 := by
 refine ok fun G H ⟨a0, a1⟩ r h => ?_
 refine st1 fun bs t o => ?_
 dsimp only [gf_bd9] at h
 try (refine gx ?_; intros; rename_i h)
 obtain ⟨hf, h⟩ := gd h
 obtain ⟨q20, hq, h⟩ := bnd h
 refine w_lastK [] [] (fun K J t o => ∃ q20_, q20 = .inr q20_ ∧ PP K J t o) ?_ ?_
 ·have ho1 := h
  refine w_lpL (xs := a0) [0, 1] [] 0 hf (fun K J l24 k22 t o => gl_bd9_1 a1 l24 k22  = some q20 ∧ PP ((5, .v (.int .i64 (k22 : Int))) :: K) J t o) ?_ ?_ ?_
  ·exact ⟨hq, pin, pinh⟩
  ·rintro k22 t o hlt ⟨h, pq⟩
   refine pn pq ?_
   rw [gl_bd9_1] at h
   exact cls
  rintro x23 l24 k22 t o hlt hx28 hw hd ⟨h, pq⟩
  refine pn pq ?_
  rw [gl_bd9_1] at h
  exact cls
 rintro t o ⟨q20, rfl, pq⟩
 refine pnq pq ?_
 exact cls
theorem d_bj9 : OkC [c_bi9] c_bj9 if_bj9 ks_bj9 := by
 refine ok fun G H ⟨a0, a1⟩ r h => ?_
 refine st1 fun bs t o => ?_
 dsimp only [gf_bj9] at h
 try (refine gx ?_; intros; rename_i h)
 obtain ⟨hf, h⟩ := gd h
 obtain ⟨q20, hq, h⟩ := bnd h
 refine w_lastK [] [] (fun K J t o => ∃ q20_, q20 = .inr q20_ ∧ PP K J t o) ?_ ?_
 ·have ho1 := h
  refine w_lpL (xs := a0) [0, 1] [] 0 hf (fun K J l24 k22 t o => gl_bj9_1 a1 l24 k22  = some q20 ∧ PP ((5, .v (.int .i64 (k22 : Int))) :: K) J t o) ?_ ?_ ?_
  ·exact ⟨hq, pin, pinh⟩
  ·rintro k22 t o hlt ⟨h, pq⟩
   refine pn pq ?_
   rw [gl_bj9_1] at h
   exact cls
  rintro x23 l24 k22 t o hlt hx28 hw hd ⟨h, pq⟩
  refine pn pq ?_
  rw [gl_bj9_1] at h
  exact cls
 rintro t o ⟨q20, rfl, pq⟩
 refine pnq pq ?_
 exact cls
theorem d_cf9 : OkC [] c_cf9 if_cf9 ks_cf9 := by
 refine ok fun G H a0 r h => ?_
 refine st1 fun bs t o => ?_
 dsimp only [gf_cf9] at h
 try (refine gx ?_; intros; rename_i h)
 obtain ⟨q9, hq, h⟩ := bnd h
 refine w_cutK [] [] (fun K J t o => PP ((3, .v (.string q9)) :: K) J t o) ?_ ?_
 ·refine w_block ?_
  refine w_lpF [] [] (fun K J n12 t o => ∃ v10 v11, gl_cf9_1 n12 v10 v11 = some q9 ∧ PP ((0, .v (.int .i64 v10)) :: (3, .v (.string v11)) :: K) J t o) ?_ ?_
  ·exact ⟨_, _, hq, pin, pinh⟩
  rintro n12 t o ⟨v10, v11, h, pq⟩
  refine pn pq ?_
  cases n12 with
  | zero => rw [gl_cf9_1] at h; cases h
  | succ n12 =>
   rw [gl_cf9_1] at h
   try (refine gx ?_; intros; rename_i h)
   refine r_bytes (xs := ([(IntKind.u8.wrap (IntKind.i64.wrap (48 + (Int.tmod v10 10))))] : (List Int))) rfl rfl (by first | rfl | simp) rfl ?_
   exact cls
 rintro t o pq
 refine pn pq ?_
 exact cls
theorem d_cc9 : OkC [] c_cc9 if_cc9 ks_cc9 := by
 refine ok fun G H ⟨a0, a1⟩ r h => ?_
 refine st1 fun bs t o => ?_
 dsimp only [gf_cc9] at h
 try (refine gx ?_; intros; rename_i h)
 obtain ⟨q16, hq, h⟩ := bnd h
 refine w_lastK [] [] (fun K J t o => PP ((1, .v (.int .i64 q16.1)) :: K) ((0, ent (bs 0).1 (bs 0).2 66 (List.map ePt q16.2)) :: J) t o) ?_ ?_
 ·refine w_lpF [] [] (fun K J n20 t o => ∃ v17 v18 v19, gl_cc9_1 n20 v17 v18 v19 = some q16 ∧ PP ((0, .ref 0 (bs 0).1 (bs 0).2 0 v19.length 66) :: (1, .v (.int .i64 v17)) :: (5, .v (.int .i64 v18)) :: K) ((0, ent (bs 0).1 (bs 0).2 66 (List.map ePt v19)) :: J) t o) ?_ ?_
  ·exact ⟨_, _, _, hq, pin, pinh⟩
  rintro n20 t o ⟨v17, v18, v19, h, pq⟩
  refine pn pq ?_
  cases n20 with
  | zero => rw [gl_cc9_1] at h; cases h
  | succ n20 =>
   rw [gl_cc9_1] at h
   refine gx fun x21 h22 => ?_; intros; rename_i h
   refine c_ste (f := ePt) v19 (⟨v17, x21.y⟩ : Pt) (idx_get h22).2 ?_
   refine gx fun x23 h24 => ?_; intros; rename_i h
   refine c_ste (f := ePt) (List.set v19 v18.toNat (⟨v17, x21.y⟩ : Pt)) (⟨x23.x, (IntKind.i64.wrap (v17 + 1))⟩ : Pt) (idx_get h24).2 ?_
   exact cls
 rintro t o pq
 refine pnq pq ?_
 exact cls
theorem d_ce9 : OkC [c_cf9] c_ce9 if_ce9 ks_ce9 := by
 refine ok fun G H ⟨a0, a1⟩ r h => ?_
 refine st1 fun bs t o => ?_
 dsimp only [gf_ce9] at h
 try (refine gx ?_; intros; rename_i h)
 obtain ⟨q28, hq, h⟩ := bnd h
 refine w_lastK [] [] (fun K J t o => PP ((1, .v (.int .i64 q28.1)) :: K) ((0, ent (bs 0).1 (bs 0).2 82 (List.map eTag q28.2)) :: J) t o) ?_ ?_
 ·refine w_lpF [] [] (fun K J n32 t o => ∃ v29 v30 v31, gl_ce9_1 n32 v29 v30 v31 = some q28 ∧ PP ((0, .ref 0 (bs 0).1 (bs 0).2 0 v31.length 82) :: (1, .v (.int .i64 v29)) :: (5, .v (.int .i64 v30)) :: K) ((0, ent (bs 0).1 (bs 0).2 82 (List.map eTag v31)) :: J) t o) ?_ ?_
  ·exact ⟨_, _, _, hq, pin, pinh⟩
  rintro n32 t o ⟨v29, v30, v31, h, pq⟩
  refine pn pq ?_
  cases n32 with
  | zero => rw [gl_ce9_1] at h; cases h
  | succ n32 =>
   rw [gl_ce9_1] at h
   refine gx fun x33 h34 x35 h36 => ?_; intros; rename_i h
   refine c_ste (f := eTag) v31 (⟨x33, x35.val⟩ : Tag) (idx_get h36).2 ?_
   refine gx fun x37 h38 x39 h40 => ?_; intros; rename_i h
   refine c_ste (f := eTag) (List.set v31 v30.toNat (⟨x33, x35.val⟩ : Tag)) (⟨x39.key, x37⟩ : Tag) (idx_get h40).2 ?_
   exact cls
 rintro t o pq
 refine pnq pq ?_
 exact cls
theorem d_cb9 : OkC [] c_cb9 if_cb9 ks_cb9 := by
 refine ok fun G H ⟨a0, a1⟩ r h => ?_
 refine st1 fun bs t o => ?_
 dsimp only [gf_cb9] at h
 try (refine gx ?_; intros; rename_i h)
 obtain ⟨q12, hq, h⟩ := bnd h
 refine w_lastK [] [] (fun K J t o => PP ((1, .v (.int .i64 q12.1)) :: K) ((0, ent (bs 0).1 (bs 0).2 17 (List.map eInt q12.2)) :: J) t o) ?_ ?_
 ·refine w_lpF [] [] (fun K J n16 t o => ∃ v13 v14 v15, gl_cb9_1 n16 v13 v14 v15 = some q12 ∧ PP ((0, .ref 0 (bs 0).1 (bs 0).2 0 v15.length 17) :: (1, .v (.int .i64 v13)) :: (5, .v (.int .i64 v14)) :: K) ((0, ent (bs 0).1 (bs 0).2 17 (List.map eInt v15)) :: J) t o) ?_ ?_
  ·exact ⟨_, _, _, hq, pin, pinh⟩
  rintro n16 t o ⟨v13, v14, v15, h, pq⟩
  refine pn pq ?_
  cases n16 with
  | zero => rw [gl_cb9_1] at h; cases h
  | succ n16 =>
   rw [gl_cb9_1] at h
   refine gx fun x17 h18 => ?_; intros; rename_i h
   refine c_ste (f := eInt) v15 v13 (idx_get h18).2 ?_
   exact cls
 rintro t o pq
 refine pnq pq ?_
 exact cls
theorem d_bz9 : OkC [c_cf9, c_cc9, c_ce9] c_bz9 if_bz9 ks_bz9 := by
 refine ok fun G H ⟨a0, a1⟩ r h => ?_
 have H_cc9 := H _ (.tail _ (.head _))
 have H_ce9 := H _ (.tail _ (.tail _ (.head _)))
 replace H := hpre 1 H
 refine st1 fun bs t o => ?_
 dsimp only [gf_bz9] at h
 try (refine gx ?_; intros; rename_i h)
 obtain ⟨q58, hq, h⟩ := bnd h
 refine w_lastK [] [] (fun K J t o => PP ((1, .v (.int .i64 q58.1)) :: K) ((0, ent (bs 0).1 (bs 0).2 100 (List.map (eFeat true) q58.2)) :: J) t o) ?_ ?_
 ·refine w_lpF [] [] (fun K J n62 t o => ∃ v59 v60 v61, gl_bz9_1 n62 v59 v60 v61 = some q58 ∧ PP ((0, .ref 0 (bs 0).1 (bs 0).2 0 v61.length 100) :: (1, .v (.int .i64 v59)) :: (5, .v (.int .i64 v60)) :: K) ((0, ent (bs 0).1 (bs 0).2 100 (List.map (eFeat true) v61)) :: J) t o) ?_ ?_
  ·exact ⟨_, _, _, hq, pin, pinh⟩
  rintro n62 t o ⟨v59, v60, v61, h, pq⟩
  refine pn pq ?_
  cases n62 with
  | zero => rw [gl_bz9_1] at h; cases h
  | succ n62 =>
   rw [gl_bz9_1] at h
   refine gx fun x63 h64 x65 h66 => ?_; intros; rename_i h
   refine c_ste (f := (eFeat true)) v61 (⟨x63, x65.shape, x65.tags⟩ : Feat) (idx_get h66).2 ?_
   refine gx fun x67 h68 => ?_; intros; rename_i h
   refine c_ste (f := (eFeat true)) (List.set v61 v60.toNat (⟨x63, x65.shape, x65.tags⟩ : Feat)) (⟨x67.id, ⟨(IntKind.i64.wrap (v59 + 1)), x67.shape.pts⟩, x67.tags⟩ : Feat) (idx_get h68).2 ?_
   refine gx fun x69 h70 => ?_; intros; rename_i h
   refine r_lopg (f := (eFeat true)) (g := ePt) (xs := (List.set (List.set v61 v60.toNat (⟨x63, x65.shape, x65.tags⟩ : Feat)) v60.toNat (⟨x67.id, ⟨(IntKind.i64.wrap (v59 + 1)), x67.shape.pts⟩, x67.tags⟩ : Feat))) (x := x69) (ys := x69.shape.pts) (idx_get h70).2 rfl rfl rfl fun b71 c72 => ?_
   try (refine gx ?_; intros; rename_i h)
   obtain ⟨x73, h74, h⟩ := bnd h
   have L74 := l_cc9 h74; (try dsimp only at L74); (first | replace L74 := And.intro L74.1.symm L74.2.symm | replace L74 := L74.symm); refine c_callg (c := c_cc9) (x69.shape.pts, (IntKind.i64.wrap ((IntKind.i64.wrap (v59 + 1)) + 1))) H_cc9 h74 fun ch => ?_
   try (refine gx ?_; intros; rename_i h)
   refine c_shg (f := (eFeat true)) (⟨x69.id, ⟨x69.shape.kind, x73.2⟩, x69.tags⟩ : Feat) (idx_get h70).2 ?_
   refine gx fun x75 h76 => ?_; intros; rename_i h
   refine r_lopg (f := (eFeat true)) (g := eTag) (xs := (List.set (List.set (List.set v61 v60.toNat (⟨x63, x65.shape, x65.tags⟩ : Feat)) v60.toNat (⟨x67.id, ⟨(IntKind.i64.wrap (v59 + 1)), x67.shape.pts⟩, x67.tags⟩ : Feat)) v60.toNat (⟨x69.id, ⟨x69.shape.kind, x73.2⟩, x69.tags⟩ : Feat))) (x := x75) (ys := x75.tags) (idx_get h76).2 rfl rfl rfl fun b77 c78 => ?_
   try (refine gx ?_; intros; rename_i h)
   obtain ⟨x79, h80, h⟩ := bnd h
   have L80 := l_ce9 h80; (try dsimp only at L80); (first | replace L80 := And.intro L80.1.symm L80.2.symm | replace L80 := L80.symm); refine c_callg (c := c_ce9) (x75.tags, x73.1) H_ce9 h80 fun ch => ?_
   try (refine gx ?_; intros; rename_i h)
   refine c_shg (f := (eFeat true)) (⟨x75.id, x75.shape, x79.2⟩ : Feat) (idx_get h76).2 ?_
   exact cls
 rintro t o pq
 refine pnq pq ?_
 exact cls
theorem d_bx9 : OkC [c_cf9, c_cb9, c_bz9] c_bx9 if_bx9 ks_bx9 := by
 refine ok fun G H ⟨a0, a1⟩ r h => ?_
 have H_cb9 := H _ (.tail _ (.head _))
 have H_bz9 := H _ (.tail _ (.tail _ (.head _)))
 replace H := hpre 1 H
 refine st1 fun bs t o => ?_
 dsimp only [gf_bx9] at h
 try (refine gx ?_; intros; rename_i h)
 obtain ⟨q52, hq, h⟩ := bnd h
 refine w_lastK [] [] (fun K J t o => PP ((1, .v (.int .i64 q52.1)) :: K) ((0, ent (bs 0).1 (bs 0).2 115 (List.map (eCommit true) q52.2)) :: J) t o) ?_ ?_
 ·refine w_lpF [] [] (fun K J n56 t o => ∃ v53 v54 v55, gl_bx9_1 n56 v53 v54 v55 = some q52 ∧ PP ((0, .ref 0 (bs 0).1 (bs 0).2 0 v55.length 115) :: (1, .v (.int .i64 v53)) :: (5, .v (.int .i64 v54)) :: K) ((0, ent (bs 0).1 (bs 0).2 115 (List.map (eCommit true) v55)) :: J) t o) ?_ ?_
  ·exact ⟨_, _, _, hq, pin, pinh⟩
  rintro n56 t o ⟨v53, v54, v55, h, pq⟩
  refine pn pq ?_
  cases n56 with
  | zero => rw [gl_bx9_1] at h; cases h
  | succ n56 =>
   rw [gl_bx9_1] at h
   refine gx fun x57 h58 => ?_; intros; rename_i h
   refine r_lopg (f := (eCommit true)) (g := eInt) (xs := v55) (x := x57) (ys := x57.up) (idx_get h58).2 rfl rfl rfl fun b59 c60 => ?_
   try (refine gx ?_; intros; rename_i h)
   obtain ⟨x61, h62, h⟩ := bnd h
   have L62 := l_cb9 h62; (try dsimp only at L62); (first | replace L62 := And.intro L62.1.symm L62.2.symm | replace L62 := L62.symm); refine c_callg (c := c_cb9) (x57.up, v53) H_cb9 h62 fun ch => ?_
   try (refine gx ?_; intros; rename_i h)
   refine c_shg (f := (eCommit true)) (⟨x61.2, x57.sheet, x57.note⟩ : Commit) (idx_get h58).2 ?_
   refine gx fun x63 h64 => ?_; intros; rename_i h
   refine r_lopg (f := (eCommit true)) (g := (eFeat true)) (xs := (List.set v55 v54.toNat (⟨x61.2, x57.sheet, x57.note⟩ : Commit))) (x := x63) (ys := x63.sheet) (idx_get h64).2 rfl rfl rfl fun b65 c66 => ?_
   try (refine gx ?_; intros; rename_i h)
   obtain ⟨x67, h68, h⟩ := bnd h
   have L68 := l_bz9 h68; (try dsimp only at L68); (first | replace L68 := And.intro L68.1.symm L68.2.symm | replace L68 := L68.symm); refine c_callg (c := c_bz9) (x63.sheet, x61.1) H_bz9 h68 fun ch => ?_
   try (refine gx ?_; intros; rename_i h)
   refine c_shg (f := (eCommit true)) (⟨x63.up, x67.2, x63.note⟩ : Commit) (idx_get h64).2 ?_
   refine gx fun x69 h70 x71 h72 => ?_; intros; rename_i h
   refine c_ste (f := (eCommit true)) (List.set (List.set v55 v54.toNat (⟨x61.2, x57.sheet, x57.note⟩ : Commit)) v54.toNat (⟨x63.up, x67.2, x63.note⟩ : Commit)) (⟨x71.up, x71.sheet, x69⟩ : Commit) (idx_get h72).2 ?_
   exact cls
 rintro t o pq
 refine pnq pq ?_
 exact cls
end Go.Proofs.AM
