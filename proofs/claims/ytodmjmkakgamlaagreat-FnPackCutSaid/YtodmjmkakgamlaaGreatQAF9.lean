/- Lemmas of the proof (QAF9), on an abstract machine. Conditions: none. -/
import Derived.Test.YtodmjmkakgamlaaGreatQAD
set_option linter.unusedVariables false
set_option maxRecDepth 100000
set_option maxHeartbeats 4000000
namespace Go.Proofs.AM
attribute [local irreducible] vwp vstps vstpLs vstp vdo vret kseq kblk kloop kend kcut kloop2 frzV renV shutK pfzV trnV unrV
theorem d_du9 : OkC [c_dz9, c_ce9] c_du9 if_du9 ks_du9 := by
 refine ok fun G H ⟨a0, a1⟩ r h => ?_
 refine st1 fun bs t o => ?_
 dsimp only [gf_du9] at h
 exact cls
theorem d_ca9 : OkC [c_cm9, c_cb9, c_du9, c_do9, c_dm9, c_dl9] c_ca9 if_ca9 ks_ca9 := by
 refine ok fun G H ⟨a0, a1⟩ r h => ?_
 refine st1 fun bs t o => ?_
 dsimp only [gf_ca9] at h
 refine gx fun x1 h2 x3 h4 => ?_; intros; rename_i h
 obtain ⟨hf, h⟩ := gd h
 obtain ⟨q48, hq, h⟩ := bnd h
 refine w_lastK [] [] (fun K J t o => ∃ q48_, q48 = .inr q48_ ∧ PP ((6, .ro (List.map (eFeat false) q48_)) :: K) J t o) ?_ ?_
 ·have ho1 := h
  refine w_lpL (xs := a1) [0, 1] [] 0 hf (fun K J l53 k51 t o => ∃ v49, gl_ca9_1 a0 l53 k51 v49 = some q48 ∧ PP ((6, .ro (List.map (eFeat false) v49)) :: (7, .v (.int .i64 (k51 : Int))) :: K) J t o) ?_ ?_ ?_
  ·exact ⟨_, hq, pin, pinh⟩
  ·rintro k51 t o hlt ⟨v49, h, pq⟩
   refine pn pq ?_
   rw [gl_ca9_1] at h
   exact cls
  rintro x52 l53 k51 t o hlt hx57 hw hd ⟨v49, h, pq⟩
  refine pn pq ?_
  rw [gl_ca9_1] at h
  exact cls
 rintro t o ⟨q48, rfl, pq⟩
 refine pnq pq ?_
 exact cls
theorem d_eq9 : OkC [] c_eq9 if_eq9 ks_eq9 := by
 refine ok fun G H ⟨a0, a1⟩ r h => ?_
 refine st1 fun bs t o => ?_
 dsimp only [gf_eq9] at h
 exact cls
theorem d_cg9 : OkC [c_em9, c_ca9, c_cj9, c_eq9] c_cg9 if_cg9 ks_cg9 := by
 refine ok fun G H ⟨a0, a1⟩ r h => ?_
 have H_eq9 := H _ (.tail _ (.tail _ (.tail _ (.head _))))
 replace H := hpre 3 H
 refine st1 fun bs t o => ?_
 dsimp only [gf_cg9] at h
 refine gx fun h5 => ?_; intros; rename_i h
 obtain ⟨hf, h⟩ := gd h
 obtain ⟨q78, hq, h⟩ := bnd h
 refine w_lastK [4] [1000512, 1000513, 32] (fun K J t o => ∃ q78_ b115 c116 b118 c119 b120, q78 = .inr q78_ ∧ PP ((6, .ptr 48 b120 210 0 0) :: K) ((1000768, ent b115 c116 115 (List.map (eCommit false) q78_.1)) :: (1000769, ent b118 c119 130 (List.map eHead q78_.2)) :: (48, ⟨b120, 1, 210, true, [[.al 1000768 b115 c116 0 q78_.1.length 115, .al 1000769 b118 c119 0 q78_.2.length 130]]⟩) :: J) t o) ?_ ?_
 ·have ho1 := h
  refine w_lpL (xs := a0) [0, 4] [1000512, 1000513, 32] 0 hf (fun K J l89 k87 t o => ∃ v80 v83 b81 c82 b84 c85 b86, gl_cg9_1 l89 k87 v80 v83 = some q78 ∧ PP ((6, .ptr 48 b86 210 0 0) :: (7, .v (.int .i64 (k87 : Int))) :: K) ((1000768, ent b81 c82 115 (List.map (eCommit false) v80)) :: (1000769, ent b84 c85 130 (List.map eHead v83)) :: (48, ⟨b86, 1, 210, true, [[.al 1000768 b81 c82 0 v80.length 115, .al 1000769 b84 c85 0 v83.length 130]]⟩) :: J) t o) ?_ ?_ ?_
  ·exact ⟨_, _, _, _, _, _, _, hq, pin, pinh⟩
  ·rintro k87 t o hlt ⟨v80, v83, b81, c82, b84, c85, b86, h, pq⟩
   refine pn pq ?_
   rw [gl_cg9_1] at h
   exact cls
  rintro x88 l89 k87 t o hlt hx93 hw hd ⟨v80, v83, b81, c82, b84, c85, b86, h, pq⟩
  refine pn pq ?_
  rw [gl_cg9_1] at h
  refine gx fun x96 h97 h101 h105 => ?_; intros; rename_i h
  obtain ⟨x106, h107, h⟩ := bnd h
  have L107 := l_eq9 h107; (try dsimp only at L107); refine c_callg (c := c_eq9) ((⟨(v80 ++ ([(⟨([] ++ x88.up), [], x88.note⟩ : Commit)] : (List Commit))), v83⟩ : Repo), (k87 : Int)) H_eq9 h107 fun ch => ?_
  refine gx fun x108 h109 x112 h113 => ?_; intros; rename_i h
  refine c_ste (f := (eCommit false)) x106.2.commits (⟨x112.up, x108.1, x112.note⟩ : Commit) (idx_get h113).2 ?_
  exact cls
 rintro t o ⟨q78, b115, c116, b118, c119, b120, rfl, pq⟩
 refine pnq pq ?_
 exact cls
theorem d_bg9 : OkC [c_cc9, c_ag9, c_cg9, c_ai9] c_bg9 if_bg9 ks_bg9 := by
 refine ok fun G H ⟨a0, a1, g0, g1, g2, g3⟩ r h => ?_
 refine st1 fun bs t o => ?_
 dsimp only [gf_bg9] at h
 refine gx fun x1 h2 x7 h8 => ?_; intros; rename_i h
 obtain ⟨q14, hq, h⟩ := bnd h
 refine w_cutK [1, 5, 7, 8] [56] (fun K J t o => ∃ b24 c25 b27 c28 b29, PP ((9, .ptr 72 b29 210 0 0) :: (10, .v (.bool q14.1)) :: K) ((1001152, ent b24 c25 115 (List.map (eCommit false) q14.2.1)) :: (1001153, ent b27 c28 130 (List.map eHead q14.2.2)) :: (72, ⟨b29, 1, 210, true, [[.al 1001152 b24 c25 0 q14.2.1.length 115, .al 1001153 b27 c28 0 q14.2.2.length 130]]⟩) :: J) t o) ?_ ?_
 ·have h := hq
  exact cls
 rintro t o ⟨b24, c25, b27, c28, b29, pq⟩
 refine pn pq ?_
 refine gx fun x30 h31 x38 h39 x40 h41 x43 h44 => ?_; intros; rename_i h
 obtain ⟨q50, hq, h⟩ := bnd h
 refine w_cutK [7, 11, 12, 13] [56, 1001536, 1001537, 96] (fun K J t o => PP ((15, .v (.bool q50)) :: K) J t o) ?_ ?_
 ·have h := hq
  exact cls
 rintro t o pq
 refine pn pq ?_
 exact cls
end Go.Proofs.AM
