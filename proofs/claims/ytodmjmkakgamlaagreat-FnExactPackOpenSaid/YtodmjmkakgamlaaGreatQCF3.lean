/- Lemmas of the proof (QCF3), on an abstract machine. Conditions: none. -/
import Derived.Test.YtodmjmkakgamlaaGreatQCD
set_option linter.unusedVariables false
set_option maxRecDepth 100000
set_option maxHeartbeats 4000000
namespace Go.Proofs.AM
attribute [local irreducible] vwp vstps vstpLs vstp vdo vret kseq kblk kloop kend kcut kloop2 frzV renV shutK pfzV trnV unrV
theorem d_ay9 : OkC [] c_ay9 if_ay9 ks_ay9 := by
 refine ok fun G H ⟨a0, a1⟩ r h => ?_
 refine st1 fun bs t o => ?_
 dsimp only [gf_ay9] at h
 exact cls
theorem d_dx9 : OkC [c_ay9] c_dx9 if_dw9 ks_dw9 := by
 refine ok fun G H ⟨a0, a1⟩ r h => ?_
 have H_ay9 := H _ (.head _)
 replace H := hpre 0 H
 refine st1 fun bs t o => ?_
 dsimp only [gf_dx9] at h
 try (refine gx ?_; intros; rename_i h)
 obtain ⟨hf, h⟩ := gd h
 obtain ⟨q14, hq, h⟩ := bnd h
 refine w_lastK [] [] (fun K J t o => ∃ q14_, q14 = .inr q14_ ∧ PP K J t o) ?_ ?_
 ·have ho1 := h
  refine w_lpL (xs := a0) [0, 1, 7] [] 0 hf (fun K J l18 k16 t o => gl_dx9_1 a1 l18 k16  = some q14 ∧ PP ((8, .v (.int .i64 (k16 : Int))) :: K) J t o) ?_ ?_ ?_
  ·exact ⟨hq, pin, pinh⟩
  ·rintro k16 t o hlt ⟨h, pq⟩
   refine pn pq ?_
   rw [gl_dx9_1] at h
   exact cls
  rintro x17 l18 k16 t o hlt hx22 hw hd ⟨h, pq⟩
  refine pn pq ?_
  rw [gl_dx9_1] at h
  try (refine gx ?_; intros; rename_i h)
  obtain ⟨x25, h26, h⟩ := bnd h
  refine c_calld (c := c_ay9) (x17, a1) H_ay9 h26 fun ch => ?_
  exact cls
 rintro t o ⟨q14, rfl, pq⟩
 refine pnq pq ?_
 exact cls
theorem d_ax9 : OkC [c_dx9] c_ax9 if_ax9 ks_ax9 := by
 refine ok fun G H ⟨a0, a1⟩ r h => ?_
 refine st1 fun bs t o => ?_
 dsimp only [gf_ax9] at h
 exact cls
theorem d_bc9 : OkC [c_ax9, c_at9] c_bc9 if_bc9 ks_bc9 := by
 refine ok fun G H ⟨a0, a1⟩ r h => ?_
 refine st1 fun bs t o => ?_
 dsimp only [gf_bc9] at h
 exact cls
theorem d_au9 : OkC [c_as9] c_au9 if_au9 ks_au9 := by
 refine ok fun G H a0 r h => ?_
 refine st1 fun bs t o => ?_
 dsimp only [gf_au9] at h
 refine gx fun h7 => ?_; intros; rename_i h
 obtain ⟨hf, h⟩ := gd h
 obtain ⟨q53, hq, h⟩ := bnd h
 refine w_lastK [2] [1000256, 1000257, 16] (fun K J t o => ∃ b80 c81 b5 c6 b82, PP ((3, .ptr 24 b82 210 0 0) :: K) ((1000384, ent b80 c81 115 (List.map (eCommit true) q53)) :: (1000385, ent b5 c6 130 (List.map eHead ([] ++ a0.heads))) :: (24, ⟨b82, 1, 210, true, [[.al 1000384 b80 c81 0 q53.length 115, .al 1000385 b5 c6 0 ([] ++ a0.heads).length 130]]⟩) :: J) t o) ?_ ?_
 ·refine w_lpL (xs := a0.commits) [2, 13, 14] [1000256, 1000257, 16] 0 hf (fun K J l61 k59 t o => ∃ v55 b56 c57 b5 c6 b58, gl_au9_1 l61 k59 v55 = some q53 ∧ PP ((3, .ptr 24 b58 210 0 0) :: (15, .v (.int .i64 (k59 : Int))) :: K) ((1000384, ent b56 c57 115 (List.map (eCommit true) v55)) :: (1000385, ent b5 c6 130 (List.map eHead ([] ++ a0.heads))) :: (24, ⟨b58, 1, 210, true, [[.al 1000384 b56 c57 0 v55.length 115, .al 1000385 b5 c6 0 ([] ++ a0.heads).length 130]]⟩) :: J) t o) ?_ ?_ ?_
  ·exact ⟨_, _, _, _, _, _, hq, pin, pinh⟩
  ·rintro k59 t o hlt ⟨v55, b56, c57, b5, c6, b58, h, pq⟩
   refine pn pq ?_
   rw [gl_au9_1] at h
   exact cls
  rintro x60 l61 k59 t o hlt hx65 hw hd ⟨v55, b56, c57, b5, c6, b58, h, pq⟩
  refine pn pq ?_
  rw [gl_au9_1] at h
  exact cls
 rintro t o ⟨b80, c81, b5, c6, b82, pq⟩
 refine pnq pq ?_
 exact cls
theorem d_br9 : OkC [] c_br9 if_br9 ks_br9 := by
 refine ok fun G H ⟨a0, a1⟩ r h => ?_
 refine st1 fun bs t o => ?_
 dsimp only [gf_br9] at h
 exact cls
theorem d_bs9 : OkC [c_br9] c_bs9 if_bs9 ks_bs9 := by
 refine ok fun G H ⟨a0, a1⟩ r h => ?_
 refine st1 fun bs t o => ?_
 dsimp only [gf_bs9] at h
 try (refine gx ?_; intros; rename_i h)
 obtain ⟨hf, h⟩ := gd h
 obtain ⟨q20, hq, h⟩ := bnd h
 refine w_lastK [] [] (fun K J t o => ∃ q20_, q20 = .inr q20_ ∧ PP K J t o) ?_ ?_
 ·have ho1 := h
  refine w_lpL (xs := a0) [0, 1] [] 0 hf (fun K J l24 k22 t o => gl_bs9_1 a1 l24 k22  = some q20 ∧ PP ((5, .v (.int .i64 (k22 : Int))) :: K) J t o) ?_ ?_ ?_
  ·exact ⟨hq, pin, pinh⟩
  ·rintro k22 t o hlt ⟨h, pq⟩
   refine pn pq ?_
   rw [gl_bs9_1] at h
   exact cls
  rintro x23 l24 k22 t o hlt hx28 hw hd ⟨h, pq⟩
  refine pn pq ?_
  rw [gl_bs9_1] at h
  exact cls
 rintro t o ⟨q20, rfl, pq⟩
 refine pnq pq ?_
 exact cls
theorem d_bv9 : OkC [] c_bv9 if_bv9 ks_bv9 := by
 refine ok fun G H ⟨a0, a1⟩ r h => ?_
 refine st1 fun bs t o => ?_
 dsimp only [gf_bv9] at h
 exact cls
theorem d_bu9 : OkC [c_bs9] c_bu9 if_bu9 ks_bu9 := by
 refine ok fun G H ⟨a0, a1⟩ r h => ?_
 refine st1 fun bs t o => ?_
 dsimp only [gf_bu9] at h
 exact cls
theorem d_bw9 : OkC [c_bv9] c_bw9 if_bw9 ks_bw9 := by
 refine ok fun G H ⟨a0, a1⟩ r h => ?_
 refine st1 fun bs t o => ?_
 dsimp only [gf_bw9] at h
 try (refine gx ?_; intros; rename_i h)
 obtain ⟨hf, h⟩ := gd h
 obtain ⟨q20, hq, h⟩ := bnd h
 refine w_lastK [] [] (fun K J t o => ∃ q20_, q20 = .inr q20_ ∧ PP K J t o) ?_ ?_
 ·have ho1 := h
  refine w_lpL (xs := a0) [0, 1] [] 0 hf (fun K J l24 k22 t o => gl_bw9_1 a1 l24 k22  = some q20 ∧ PP ((5, .v (.int .i64 (k22 : Int))) :: K) J t o) ?_ ?_ ?_
  ·exact ⟨hq, pin, pinh⟩
  ·rintro k22 t o hlt ⟨h, pq⟩
   refine pn pq ?_
   rw [gl_bw9_1] at h
   exact cls
  rintro x23 l24 k22 t o hlt hx28 hw hd ⟨h, pq⟩
  refine pn pq ?_
  rw [gl_bw9_1] at h
  exact cls
 rintro t o ⟨q20, rfl, pq⟩
 refine pnq pq ?_
 exact cls
theorem d_bm9 : OkC [c_bu9, c_bw9] c_bm9 if_bm9 ks_bm9 := by
 refine ok fun G H ⟨a0, a1⟩ r h => ?_
 refine st1 fun bs t o => ?_
 dsimp only [gf_bm9] at h
 exact cls
theorem d_bq9 : OkC [] c_bq9 if_bq9 ks_bq9 := by
 refine ok fun G H ⟨a0, a1⟩ r h => ?_
 refine st1 fun bs t o => ?_
 dsimp only [gf_bq9] at h
 try (refine gx ?_; intros; rename_i h)
 obtain ⟨hf, h⟩ := gd h
 obtain ⟨q14, hq, h⟩ := bnd h
 refine w_lastK [] [] (fun K J t o => ∃ q14_, q14 = .inr q14_ ∧ PP K J t o) ?_ ?_
 ·have ho1 := h
  refine w_lpL (xs := a0) [0, 1] [] 0 hf (fun K J l18 k16 t o => gl_bq9_1 a1 l18 k16  = some q14 ∧ PP ((5, .v (.int .i64 (k16 : Int))) :: K) J t o) ?_ ?_ ?_
  ·exact ⟨hq, pin, pinh⟩
  ·rintro k16 t o hlt ⟨h, pq⟩
   refine pn pq ?_
   rw [gl_bq9_1] at h
   exact cls
  rintro x17 l18 k16 t o hlt hx22 hw hd ⟨h, pq⟩
  refine pn pq ?_
  rw [gl_bq9_1] at h
  exact cls
 rintro t o ⟨q14, rfl, pq⟩
 refine pnq pq ?_
 exact cls
theorem d_bn9 : OkC [c_bm9] c_bn9 if_bn9 ks_bn9 := by
 refine ok fun G H ⟨a0, a1⟩ r h => ?_
 refine st1 fun bs t o => ?_
 dsimp only [gf_bn9] at h
 try (refine gx ?_; intros; rename_i h)
 obtain ⟨hf, h⟩ := gd h
 obtain ⟨q20, hq, h⟩ := bnd h
 refine w_lastK [] [] (fun K J t o => ∃ q20_, q20 = .inr q20_ ∧ PP K J t o) ?_ ?_
 ·have ho1 := h
  refine w_lpL (xs := a0) [0, 1] [] 0 hf (fun K J l24 k22 t o => gl_bn9_1 a1 l24 k22  = some q20 ∧ PP ((5, .v (.int .i64 (k22 : Int))) :: K) J t o) ?_ ?_ ?_
  ·exact ⟨hq, pin, pinh⟩
  ·rintro k22 t o hlt ⟨h, pq⟩
   refine pn pq ?_
   rw [gl_bn9_1] at h
   exact cls
  rintro x23 l24 k22 t o hlt hx28 hw hd ⟨h, pq⟩
  refine pn pq ?_
  rw [gl_bn9_1] at h
  exact cls
 rintro t o ⟨q20, rfl, pq⟩
 refine pnq pq ?_
 exact cls
theorem d_bi9 : OkC [c_bq9, c_bn9] c_bi9 if_bi9 ks_bi9 := by
 refine ok fun G H ⟨a0, a1⟩ r h => ?_
 refine st1 fun bs t o => ?_
 dsimp only [gf_bi9] at h
 exact cls
theorem d_bo9 : OkC [] c_bo9 if_bo9 ks_bo9 := by
 refine ok fun G H ⟨a0, a1⟩ r h => ?_
 refine st1 fun bs t o => ?_
 dsimp only [gf_bo9] at h
 exact cls
theorem d_bj9 : OkC [c_bi9] c_bj9 if_bj9 ks_bj9 := by
 refine ok fun G H ⟨a0, a1⟩ r h => ?_
 refine st1 fun bs t o => ?_
 dsimp only [gf_bj9] at h
 try (refine gx ?_; intros; rename_i h)
 obtain ⟨hf, h⟩ := gd h
 obtain ⟨q20, hq, h⟩ := bnd h
 refine w_lastK [] [] (fun K J t o => ∃ q20_, q20 = .inr q20_ ∧ PP K J t o) ?_ ?_
 ·have ho1 := h
  refine w_lpL (xs := a0) [0, 1] [] 0 hf (fun K J l24 k22 t o => gl_bj9_1 a1 l24 k22  = some q20 ∧ PP ((5, .v (.int .i64 (k22 : Int))) :: K) J t o) ?_ ?_ ?_
  ·exact ⟨hq, pin, pinh⟩
  ·rintro k22 t o hlt ⟨h, pq⟩
   refine pn pq ?_
   rw [gl_bj9_1] at h
   exact cls
  rintro x23 l24 k22 t o hlt hx28 hw hd ⟨h, pq⟩
  refine pn pq ?_
  rw [gl_bj9_1] at h
  exact cls
 rintro t o ⟨q20, rfl, pq⟩
 refine pnq pq ?_
 exact cls
theorem d_bp9 : OkC [c_bo9] c_bp9 if_bp9 ks_bp9 := by
 refine ok fun G H ⟨a0, a1⟩ r h => ?_
 refine st1 fun bs t o => ?_
 dsimp only [gf_bp9] at h
 try (refine gx ?_; intros; rename_i h)
 obtain ⟨hf, h⟩ := gd h
 obtain ⟨q20, hq, h⟩ := bnd h
 refine w_lastK [] [] (fun K J t o => ∃ q20_, q20 = .inr q20_ ∧ PP K J t o) ?_ ?_
 ·have ho1 := h
  refine w_lpL (xs := a0) [0, 1] [] 0 hf (fun K J l24 k22 t o => gl_bp9_1 a1 l24 k22  = some q20 ∧ PP ((5, .v (.int .i64 (k22 : Int))) :: K) J t o) ?_ ?_ ?_
  ·exact ⟨hq, pin, pinh⟩
  ·rintro k22 t o hlt ⟨h, pq⟩
   refine pn pq ?_
   rw [gl_bp9_1] at h
   exact cls
  rintro x23 l24 k22 t o hlt hx28 hw hd ⟨h, pq⟩
  refine pn pq ?_
  rw [gl_bp9_1] at h
  exact cls
 rintro t o ⟨q20, rfl, pq⟩
 refine pnq pq ?_
 exact cls
theorem d_cn9 : OkC [] c_cn9 if_cn9 ks_cn9 := by
 refine ok fun G H a0 r h => ?_
 refine st1 fun bs t o => ?_
 dsimp only [gf_cn9] at h
 try (refine gx ?_; intros; rename_i h)
 obtain ⟨q9, hq, h⟩ := bnd h
 refine w_cutK [] [] (fun K J t o => PP ((3, .v (.string q9)) :: K) J t o) ?_ ?_
 ·refine w_block ?_
  refine w_lpF [] [] (fun K J n12 t o => ∃ v10 v11, gl_cn9_1 n12 v10 v11 = some q9 ∧ PP ((0, .v (.int .i64 v10)) :: (3, .v (.string v11)) :: K) J t o) ?_ ?_
  ·exact ⟨_, _, hq, pin, pinh⟩
  rintro n12 t o ⟨v10, v11, h, pq⟩
  refine pn pq ?_
  cases n12 with
  | zero => rw [gl_cn9_1] at h; cases h
  | succ n12 =>
   rw [gl_cn9_1] at h
   try (refine gx ?_; intros; rename_i h)
   refine r_bytes (xs := ([(IntKind.u8.wrap (IntKind.i64.wrap (48 + (Int.tmod v10 10))))] : (List Int))) rfl rfl (by first | rfl | simp) rfl ?_
   exact cls
 rintro t o pq
 refine pn pq ?_
 exact cls
theorem d_ck9 : OkC [] c_ck9 if_ck9 ks_ck9 := by
 refine ok fun G H ⟨a0, a1⟩ r h => ?_
 refine st1 fun bs t o => ?_
 dsimp only [gf_ck9] at h
 try (refine gx ?_; intros; rename_i h)
 obtain ⟨q16, hq, h⟩ := bnd h
 refine w_lastK [] [] (fun K J t o => PP ((1, .v (.int .i64 q16.1)) :: K) ((0, ent (bs 0).1 (bs 0).2 66 (List.map ePt q16.2)) :: J) t o) ?_ ?_
 ·refine w_lpF [] [] (fun K J n20 t o => ∃ v17 v18 v19, gl_ck9_1 n20 v17 v18 v19 = some q16 ∧ PP ((0, .ref 0 (bs 0).1 (bs 0).2 0 v19.length 66) :: (1, .v (.int .i64 v17)) :: (5, .v (.int .i64 v18)) :: K) ((0, ent (bs 0).1 (bs 0).2 66 (List.map ePt v19)) :: J) t o) ?_ ?_
  ·exact ⟨_, _, _, hq, pin, pinh⟩
  rintro n20 t o ⟨v17, v18, v19, h, pq⟩
  refine pn pq ?_
  cases n20 with
  | zero => rw [gl_ck9_1] at h; cases h
  | succ n20 =>
   rw [gl_ck9_1] at h
   refine gx fun x21 h22 => ?_; intros; rename_i h
   refine c_ste (f := ePt) v19 (⟨v17, x21.y⟩ : Pt) (idx_get h22).2 ?_
   refine gx fun x23 h24 => ?_; intros; rename_i h
   refine c_ste (f := ePt) (List.set v19 v18.toNat (⟨v17, x21.y⟩ : Pt)) (⟨x23.x, (IntKind.i64.wrap (v17 + 1))⟩ : Pt) (idx_get h24).2 ?_
   exact cls
 rintro t o pq
 refine pnq pq ?_
 exact cls
theorem d_cm9 : OkC [c_cn9] c_cm9 if_cm9 ks_cm9 := by
 refine ok fun G H ⟨a0, a1⟩ r h => ?_
 refine st1 fun bs t o => ?_
 dsimp only [gf_cm9] at h
 try (refine gx ?_; intros; rename_i h)
 obtain ⟨q28, hq, h⟩ := bnd h
 refine w_lastK [] [] (fun K J t o => PP ((1, .v (.int .i64 q28.1)) :: K) ((0, ent (bs 0).1 (bs 0).2 82 (List.map eTag q28.2)) :: J) t o) ?_ ?_
 ·refine w_lpF [] [] (fun K J n32 t o => ∃ v29 v30 v31, gl_cm9_1 n32 v29 v30 v31 = some q28 ∧ PP ((0, .ref 0 (bs 0).1 (bs 0).2 0 v31.length 82) :: (1, .v (.int .i64 v29)) :: (5, .v (.int .i64 v30)) :: K) ((0, ent (bs 0).1 (bs 0).2 82 (List.map eTag v31)) :: J) t o) ?_ ?_
  ·exact ⟨_, _, _, hq, pin, pinh⟩
  rintro n32 t o ⟨v29, v30, v31, h, pq⟩
  refine pn pq ?_
  cases n32 with
  | zero => rw [gl_cm9_1] at h; cases h
  | succ n32 =>
   rw [gl_cm9_1] at h
   refine gx fun x33 h34 x35 h36 => ?_; intros; rename_i h
   refine c_ste (f := eTag) v31 (⟨x33, x35.val⟩ : Tag) (idx_get h36).2 ?_
   refine gx fun x37 h38 x39 h40 => ?_; intros; rename_i h
   refine c_ste (f := eTag) (List.set v31 v30.toNat (⟨x33, x35.val⟩ : Tag)) (⟨x39.key, x37⟩ : Tag) (idx_get h40).2 ?_
   exact cls
 rintro t o pq
 refine pnq pq ?_
 exact cls
theorem d_cj9 : OkC [] c_cj9 if_cj9 ks_cj9 := by
 refine ok fun G H ⟨a0, a1⟩ r h => ?_
 refine st1 fun bs t o => ?_
 dsimp only [gf_cj9] at h
 try (refine gx ?_; intros; rename_i h)
 obtain ⟨q12, hq, h⟩ := bnd h
 refine w_lastK [] [] (fun K J t o => PP ((1, .v (.int .i64 q12.1)) :: K) ((0, ent (bs 0).1 (bs 0).2 17 (List.map eInt q12.2)) :: J) t o) ?_ ?_
 ·refine w_lpF [] [] (fun K J n16 t o => ∃ v13 v14 v15, gl_cj9_1 n16 v13 v14 v15 = some q12 ∧ PP ((0, .ref 0 (bs 0).1 (bs 0).2 0 v15.length 17) :: (1, .v (.int .i64 v13)) :: (5, .v (.int .i64 v14)) :: K) ((0, ent (bs 0).1 (bs 0).2 17 (List.map eInt v15)) :: J) t o) ?_ ?_
  ·exact ⟨_, _, _, hq, pin, pinh⟩
  rintro n16 t o ⟨v13, v14, v15, h, pq⟩
  refine pn pq ?_
  cases n16 with
  | zero => rw [gl_cj9_1] at h; cases h
  | succ n16 =>
   rw [gl_cj9_1] at h
   refine gx fun x17 h18 => ?_; intros; rename_i h
   refine c_ste (f := eInt) v15 v13 (idx_get h18).2 ?_
   exact cls
 rintro t o pq
 refine pnq pq ?_
 exact cls
end Go.Proofs.AM
