/- Lemmas of the proof (QBF7), on an abstract machine. Conditions: none. -/
import Derived.Test.YtodmjmkakgamlaaGreatQBD
set_option linter.unusedVariables false
set_option maxRecDepth 100000
set_option maxHeartbeats 4000000
namespace Go.Proofs.AM
attribute [local irreducible] vwp vstps vstpLs vstp vdo vret kseq kblk kloop kend kcut kloop2 frzV renV shutK pfzV trnV unrV
theorem d_br9 : OkC [c_cf9, c_bu9, c_bv9] c_br9 if_br9 ks_br9 := by
 refine ok fun G H ⟨a0, a1⟩ r h => ?_
 refine st1 fun bs t o => ?_
 dsimp only [gf_br9] at h
 try (refine gx ?_; intros; rename_i h)
 obtain ⟨hf, h⟩ := gd h
 obtain ⟨q51, hq, h⟩ := bnd h
 refine w_lastK [] [] (fun K J t o => ∃ q51_, q51 = .inr q51_ ∧ PP ((1, .v (.int .i64 q51_)) :: K) J t o) ?_ ?_
 ·have ho1 := h
  refine w_lpL (xs := a0) [0] [] 0 hf (fun K J l56 k54 t o => ∃ v52, gl_br9_1 l56 k54 v52 = some q51 ∧ PP ((1, .v (.int .i64 v52)) :: (5, .v (.int .i64 (k54 : Int))) :: K) J t o) ?_ ?_ ?_
  ·exact ⟨_, hq, pin, pinh⟩
  ·rintro k54 t o hlt ⟨v52, h, pq⟩
   refine pn pq ?_
   rw [gl_br9_1] at h
   exact cls
  rintro x55 l56 k54 t o hlt hx60 hw hd ⟨v52, h, pq⟩
  refine pn pq ?_
  rw [gl_br9_1] at h
  exact cls
 rintro t o ⟨q51, rfl, pq⟩
 refine pnq pq ?_
 exact cls
theorem d_bs9 : OkC [c_bt9, c_cf9, c_br9] c_bs9 if_bs9 ks_bs9 := by
 refine ok fun G H ⟨a0, a1⟩ r h => ?_
 refine st1 fun bs t o => ?_
 dsimp only [gf_bs9] at h
 try (refine gx ?_; intros; rename_i h)
 obtain ⟨hf, h⟩ := gd h
 obtain ⟨q27, hq, h⟩ := bnd h
 refine w_lastK [] [] (fun K J t o => ∃ q27_, q27 = .inr q27_ ∧ PP ((1, .v (.int .i64 q27_)) :: K) J t o) ?_ ?_
 ·have ho1 := h
  refine w_lpL (xs := a0) [0] [] 0 hf (fun K J l32 k30 t o => ∃ v28, gl_bs9_1 l32 k30 v28 = some q27 ∧ PP ((1, .v (.int .i64 v28)) :: (5, .v (.int .i64 (k30 : Int))) :: K) J t o) ?_ ?_ ?_
  ·exact ⟨_, hq, pin, pinh⟩
  ·rintro k30 t o hlt ⟨v28, h, pq⟩
   refine pn pq ?_
   rw [gl_bs9_1] at h
   exact cls
  rintro x31 l32 k30 t o hlt hx36 hw hd ⟨v28, h, pq⟩
  refine pn pq ?_
  rw [gl_bs9_1] at h
  exact cls
 rintro t o ⟨q27, rfl, pq⟩
 refine pnq pq ?_
 exact cls
theorem d_az9 : OkC [c_co9, c_db9, c_dw9, c_ae9, c_bf9, c_bn9, c_bs9, c_cd9, c_by9] c_az9 if_az9 ks_az9 := by
 refine ok fun G H a0 r h => ?_
 have H_cd9 := H _ (.tail _ (.tail _ (.tail _ (.tail _ (.tail _ (.tail _ (.tail _ (.head _))))))))
 have H_by9 := H _ (.tail _ (.tail _ (.tail _ (.tail _ (.tail _ (.tail _ (.tail _ (.tail _ (.head _)))))))))
 replace H := hpre 7 H
 refine st1 fun bs t o => ?_
 dsimp only [gf_az9] at h
 refine gx fun x2 h3 x4 h5 x10 h11 => ?_; intros; rename_i h
 obtain ⟨q14, hq, h⟩ := bnd h
 refine w_cutK [1, 4] [8, 144] (fun K J t o => ∃ b23 c24 b26 c27 b28, PP ((5, .ptr 40 b28 210 0 0) :: K) ((1000640, ent b23 c24 115 (List.map (eCommit true) q14.1)) :: (1000641, ent b26 c27 130 (List.map eHead q14.2)) :: (40, ⟨b28, 1, 210, true, [[.al 1000640 b23 c24 0 q14.1.length 115, .al 1000641 b26 c27 0 q14.2.length 130]]⟩) :: J) t o) ?_ ?_
 ·have h := hq
  exact cls
 rintro t o ⟨b23, c24, b26, c27, b28, pq⟩
 refine pn pq ?_
 refine gx fun x29 h30 x33 h34 x35 h36 x41 h42 => ?_; intros; rename_i h
 obtain ⟨x43, h44, h⟩ := bnd h
 have L44 := l_cd9 h44; (try dsimp only at L44); (first | replace L44 := And.intro L44.1.symm L44.2.symm | replace L44 := L44.symm); refine c_callg (c := c_cd9) ((⟨q14.1, q14.2⟩ : Repo), 1) H_cd9 h44 fun ch => ?_
 refine gx fun x45 h46 => ?_; intros; rename_i h
 obtain ⟨x47, h48, h⟩ := bnd h
 have L48 := l_by9 h48; (try dsimp only at L48); (first | replace L48 := And.intro L48.1.symm L48.2.symm | replace L48 := L48.symm); refine c_callg (c := c_by9) (x29, 1) H_by9 h48 fun ch => ?_
 exact cls
end Go.Proofs.AM
