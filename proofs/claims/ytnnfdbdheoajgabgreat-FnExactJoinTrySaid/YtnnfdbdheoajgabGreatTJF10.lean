/- Lemmas of the proof (TJF10), on an abstract machine. Conditions: none. -/
import Derived.Test.YtnnfdbdheoajgabGreatTJD
set_option linter.unusedVariables false
set_option maxRecDepth 100000
set_option maxHeartbeats 4000000
namespace Go.Proofs.AM
attribute [local irreducible] vwp vstps vstpLs vstp vdo vret kseq kblk kloop kend kcut kloop2 frzV renV shutK pfzV trnV unrV
theorem d_ck9 : OkC [c_cv9, c_cl9, c_cm9] c_ck9 if_ck9 ks_ck9 := by
 refine ok fun G H ⟨a0, a1⟩ r h => ?_
 refine st1 fun bs t o => ?_
 dsimp only [gf_ck9] at h
 try (refine gx ?_; intros; rename_i h)
 obtain ⟨hf, h⟩ := gd h
 obtain ⟨q27, hq, h⟩ := bnd h
 refine w_lastK [] [] (fun K J t o => ∃ q27_, q27 = .inr q27_ ∧ PP ((1, .v (.int .i64 q27_)) :: K) J t o) ?_ ?_
 ·have ho1 := h
  refine w_lpL (xs := a0) [0] [] 0 hf (fun K J l32 k30 t o => ∃ v28, gl_ck9_1 l32 k30 v28 = some q27 ∧ PP ((1, .v (.int .i64 v28)) :: (5, .v (.int .i64 (k30 : Int))) :: K) J t o) ?_ ?_ ?_
  ·exact ⟨_, hq, pin, pinh⟩
  ·rintro k30 t o hlt ⟨v28, h, pq⟩
   refine pn pq ?_
   rw [gl_ck9_1] at h
   exact cls
  rintro x31 l32 k30 t o hlt hx36 hw hd ⟨v28, h, pq⟩
  refine pn pq ?_
  rw [gl_ck9_1] at h
  exact cls
 rintro t o ⟨q27, rfl, pq⟩
 refine pnq pq ?_
 exact cls
theorem d_de9 : OkC [c_cx9, c_db9] c_de9 if_de9 ks_de9 := by
 refine ok fun G H ⟨a0, a1⟩ r h => ?_
 refine st1 fun bs t o => ?_
 dsimp only [gf_de9] at h
 exact cls
theorem d_dr9 : OkC [c_dj9, c_dn9] c_dr9 if_dr9 ks_dr9 := by
 refine ok fun G H a0 r h => ?_
 refine st1 fun bs t o => ?_
 dsimp only [gf_dr9] at h
 exact cls
theorem d_cf9 : OkC [c_bx9, c_cb9] c_cf9 if_cf9 ks_cf9 := by
 refine ok fun G H ⟨a0, a1⟩ r h => ?_
 refine st1 fun bs t o => ?_
 dsimp only [gf_cf9] at h
 exact cls
theorem d_bv9 : OkC [c_bu9] c_bv9 if_bv9 ks_bv9 := by
 refine ok fun G H ⟨a0, a1⟩ r h => ?_
 refine st1 fun bs t o => ?_
 dsimp only [gf_bv9] at h
 try (refine gx ?_; intros; rename_i h)
 obtain ⟨hf, h⟩ := gd h
 obtain ⟨q20, hq, h⟩ := bnd h
 refine w_lastK [] [] (fun K J t o => ∃ q20_, q20 = .inr q20_ ∧ PP K J t o) ?_ ?_
 ·have ho1 := h
  refine w_lpL (xs := a0) [0, 1] [] 0 hf (fun K J l24 k22 t o => gl_bv9_1 a1 l24 k22  = some q20 ∧ PP ((5, .v (.int .i64 (k22 : Int))) :: K) J t o) ?_ ?_ ?_
  ·exact ⟨hq, pin, pinh⟩
  ·rintro k22 t o hlt ⟨h, pq⟩
   refine pn pq ?_
   rw [gl_bv9_1] at h
   exact cls
  rintro x23 l24 k22 t o hlt hx28 hw hd ⟨h, pq⟩
  refine pn pq ?_
  rw [gl_bv9_1] at h
  exact cls
 rintro t o ⟨q20, rfl, pq⟩
 refine pnq pq ?_
 exact cls
theorem d_ct9 : OkC [c_co9, c_cq9] c_ct9 if_ct9 ks_ct9 := by
 refine ok fun G H ⟨a0, a1⟩ r h => ?_
 have H_co9 := H _ (.head _)
 have H_cq9 := H _ (.tail _ (.head _))
 replace H := hpre 0 H
 refine st1 fun bs t o => ?_
 dsimp only [gf_ct9] at h
 try (refine gx ?_; intros; rename_i h)
 obtain ⟨x2, h3, h⟩ := bnd h
 have L3 := l_co9 h3; (try dsimp only at L3); (first | replace L3 := And.intro L3.1.symm L3.2.symm | replace L3 := L3.symm); (try obtain ⟨L3, M3⟩ := L3); refine c_callg (c := c_co9) (a0.commits, a1) H_co9 h3 fun ch => ?_
 try (refine gx ?_; intros; rename_i h)
 obtain ⟨x4, h5, h⟩ := bnd h
 have L5 := l_cq9 h5; (try dsimp only at L5); (first | replace L5 := And.intro L5.1.symm L5.2.symm | replace L5 := L5.symm); (try obtain ⟨L5, M5⟩ := L5); refine c_callg (c := c_cq9) (a0.heads, x2.1) H_cq9 h5 fun ch => ?_
 exact cls
theorem d_cn9 : OkC [c_cv9] c_cn9 if_cn9 ks_cn9 := by
 refine ok fun G H ⟨a0, a1⟩ r h => ?_
 refine st1 fun bs t o => ?_
 dsimp only [gf_cn9] at h
 try (refine gx ?_; intros; rename_i h)
 obtain ⟨q28, hq, h⟩ := bnd h
 refine w_lastK [] [] (fun K J t o => PP ((1, .v (.int .i64 q28.1)) :: K) ((0, ent (bs 0).1 (bs 0).2 178 (List.map eClash q28.2)) :: J) t o) ?_ ?_
 ·refine w_lpF [] [] (fun K J n32 t o => ∃ v29 v30 v31, gl_cn9_1 n32 v29 v30 v31 = some q28 ∧ PP ((0, .ref 0 (bs 0).1 (bs 0).2 0 v31.length 178) :: (1, .v (.int .i64 v29)) :: (5, .v (.int .i64 v30)) :: K) ((0, ent (bs 0).1 (bs 0).2 178 (List.map eClash v31)) :: J) t o) ?_ ?_
  ·exact ⟨_, _, _, hq, pin, pinh⟩
  rintro n32 t o ⟨v29, v30, v31, h, pq⟩
  refine pn pq ?_
  cases n32 with
  | zero => rw [gl_cn9_1] at h; cases h
  | succ n32 =>
   rw [gl_cn9_1] at h
   refine gx fun x33 h34 x35 h36 => ?_; intros; rename_i h
   refine c_ste (f := eClash) v31 (⟨x33, x35.what⟩ : Clash) (idx_get h36).2 ?_
   refine gx fun x37 h38 x39 h40 => ?_; intros; rename_i h
   refine c_ste (f := eClash) (List.set v31 v30.toNat (⟨x33, x35.what⟩ : Clash)) (⟨x39.id, x37⟩ : Clash) (idx_get h40).2 ?_
   exact cls
 rintro t o pq
 refine pnq pq ?_
 exact cls
theorem d_cj9 : OkC [c_cv9] c_cj9 if_cj9 ks_cj9 := by
 refine ok fun G H ⟨a0, a1⟩ r h => ?_
 refine st1 fun bs t o => ?_
 dsimp only [gf_cj9] at h
 try (refine gx ?_; intros; rename_i h)
 obtain ⟨hf, h⟩ := gd h
 obtain ⟨q21, hq, h⟩ := bnd h
 refine w_lastK [] [] (fun K J t o => ∃ q21_, q21 = .inr q21_ ∧ PP ((1, .v (.int .i64 q21_)) :: K) J t o) ?_ ?_
 ·have ho1 := h
  refine w_lpL (xs := a0) [0] [] 0 hf (fun K J l26 k24 t o => ∃ v22, gl_cj9_1 l26 k24 v22 = some q21 ∧ PP ((1, .v (.int .i64 v22)) :: (5, .v (.int .i64 (k24 : Int))) :: K) J t o) ?_ ?_ ?_
  ·exact ⟨_, hq, pin, pinh⟩
  ·rintro k24 t o hlt ⟨v22, h, pq⟩
   refine pn pq ?_
   rw [gl_cj9_1] at h
   exact cls
  rintro x25 l26 k24 t o hlt hx30 hw hd ⟨v22, h, pq⟩
  refine pn pq ?_
  rw [gl_cj9_1] at h
  exact cls
 rintro t o ⟨q21, rfl, pq⟩
 refine pnq pq ?_
 exact cls
theorem d_bt9 : OkC [c_de9, c_dr9, c_ev9, c_ah9, c_bz9, c_bv9, c_cf9, c_ck9, c_cj9, c_ct9, c_cp9, c_cn9] c_bt9 if_bt9 ks_bt9 := by
 refine ok fun G H ⟨a0, a1, a2⟩ r h => ?_
 have H_ct9 := H _ (.tail _ (.tail _ (.tail _ (.tail _ (.tail _ (.tail _ (.tail _ (.tail _ (.tail _ (.head _))))))))))
 have H_cp9 := H _ (.tail _ (.tail _ (.tail _ (.tail _ (.tail _ (.tail _ (.tail _ (.tail _ (.tail _ (.tail _ (.head _)))))))))))
 have H_cn9 := H _ (.tail _ (.tail _ (.tail _ (.tail _ (.tail _ (.tail _ (.tail _ (.tail _ (.tail _ (.tail _ (.tail _ (.head _))))))))))))
 replace H := hpre 9 H
 refine st1 fun bs t o => ?_
 dsimp only [gf_bt9] at h
 refine gx fun x2 h3 x4 h5 x10 h11 => ?_; intros; rename_i h
 obtain ⟨q16, hq, h⟩ := bnd h
 refine w_cutK [1, 2, 3, 8, 9, 10] [24, 248, 249] (fun K J t o => ∃ b25 c26 b28 c29 b30, PP ((11, .ptr 88 b30 210 0 0) :: K) ((1001408, ent b25 c26 115 (List.map (eCommit true) q16.1)) :: (1001409, ent b28 c29 130 (List.map eHead q16.2)) :: (88, ⟨b30, 1, 210, true, [[.al 1001408 b25 c26 0 q16.1.length 115, .al 1001409 b28 c29 0 q16.2.length 130]]⟩) :: J) t o) ?_ ?_
 ·have h := hq
  exact cls
 rintro t o ⟨b25, c26, b28, c29, b30, pq⟩
 refine pn pq ?_
 refine gx fun x31 h32 x37 h38 x39 h40 x41 h42 x47 h48 => ?_; intros; rename_i h
 obtain ⟨x49, h50, h⟩ := bnd h
 have L50 := l_ct9 h50; (try dsimp only at L50); (first | replace L50 := And.intro L50.1.symm L50.2.symm | replace L50 := L50.symm); (try obtain ⟨L50, M50⟩ := L50); refine c_callg (c := c_ct9) ((⟨q16.1, q16.2⟩ : Repo), 1) H_ct9 h50 fun ch => ?_
 refine gx fun x51 h52 x53 h54 => ?_; intros; rename_i h
 obtain ⟨q55, hq, h⟩ := bnd h
 refine w_cutK [1, 2, 3, 8, 9, 10, 13] [24, 248, 249, 329] (fun K J t o => ∃ b60 c61, PP ((12, .ref 328 b60 c61 0 q55.2.length 100) :: (16, .v (.int .i64 q55.1)) :: K) ((328, ent b60 c61 100 (List.map (eFeat true) q55.2)) :: J) t o) ?_ ?_
 ·have h := hq
  try (refine gx ?_; intros; rename_i h)
  obtain ⟨x56, h57, h⟩ := bnd h
  have L57 := l_cp9 h57; (try dsimp only at L57); (first | replace L57 := And.intro L57.1.symm L57.2.symm | replace L57 := L57.symm); (try obtain ⟨L57, M57⟩ := L57); refine c_callg (c := c_cp9) (x31.1, 1) H_cp9 h57 fun ch => ?_
  exact cls
 rintro t o ⟨b60, c61, pq⟩
 refine pn pq ?_
 try (refine gx ?_; intros; rename_i h)
 obtain ⟨x62, h63, h⟩ := bnd h
 have L63 := l_cn9 h63; (try dsimp only at L63); (first | replace L63 := And.intro L63.1.symm L63.2.symm | replace L63 := L63.symm); (try obtain ⟨L63, M63⟩ := L63); refine c_callg (c := c_cn9) (x31.2.1, q55.1) H_cn9 h63 fun ch => ?_
 exact cls
end Go.Proofs.AM
