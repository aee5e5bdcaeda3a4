/- Lemmas of the proof (QCF6), on an abstract machine. Conditions: none. -/
import Derived.Test.YtodmjmkakgamlaaGreatQCD
set_option linter.unusedVariables false
set_option maxRecDepth 100000
set_option maxHeartbeats 4000000
namespace Go.Proofs.AM
attribute [local irreducible] vwp vstps vstpLs vstp vdo vret kseq kblk kloop kend kcut kloop2 frzV renV shutK pfzV trnV unrV
theorem d_fh9 : OkC [] c_fh9 if_fh9 ks_fh9 := by
 refine ok fun G H ⟨a0, a1⟩ r h => ?_
 refine st1 fun bs t o => ?_
 dsimp only [gf_fh9] at h
 exact cls
theorem d_do9 : OkC [] c_do9 if_do9 ks_do9 := by
 refine ok fun G H ⟨a0, a1, a2⟩ r h => ?_
 refine st1 fun bs t o => ?_
 dsimp only [gf_do9] at h
 obtain ⟨q, hs, h⟩ := bnd h
 obtain ⟨s0, s1, s2⟩ := slc_le hs
 refine go ?_;intros
 refine r_sl3 rfl rfl rfl rfl rfl hs rfl ?_
 refine go ?_;intros
 refine w_cond rfl (fun c => ?_) (fun c => ?_)
 ·replace h := itt h c
  try rw [c]
  refine go ?_;intros
  cases h
  exact r_endg
 replace h := itf h c
 try rw [c]
 refine go ?_;intros
 refine r_slv0 (j := a1) rfl rfl rfl rfl s0 (by omega) ?_
 refine go ?_;intros
 refine r_slv1 (j := a2) rfl rfl rfl rfl (by omega) s2 ?_
 refine go ?_;intros
 refine r_ain (f := (eFeat false)) (xs := a0) (ys := a0.drop a2.toNat) (i := a1.toNat) (j := a2.toNat) (m := a0.length - a2.toNat) rfl rfl rfl (del_ys a0) (by omega) (by omega) (fun _ => rfl) ?_
 refine go ?_;intros
 refine r_slx2 (i := ((a1.toNat + (a0.length - a2.toNat) : Nat) : Int)) (j := (a0.length : Int)) (rows := List.map (eFeat false) (a0.take a1.toNat ++ a0.drop a2.toNat ++ a0.drop (a1.toNat + (a0.length - a2.toNat)))) rfl rfl rfl rfl rfl (by omega) (by omega) (by simp; omega) ?_
 refine go ?_;intros
 refine r_clr (f := (eFeat false)) (xs := a0.take a1.toNat ++ a0.drop a2.toNat ++ a0.drop (a1.toNat + (a0.length - a2.toNat))) (z0 := (⟨⟨#[]⟩, ⟨0, []⟩, []⟩ : Feat)) rfl rfl rfl (by simp; omega) (fun _ => rfl) ?_
 refine go ?_;intros
 refine r_trn ?_
 refine go ?_;intros
 refine r_trv (f := (eFeat false)) (ys := a0.take a1.toNat ++ a0.drop a2.toNat) (xs := del_xs a0 a1 a2 (⟨⟨#[]⟩, ⟨0, []⟩, []⟩ : Feat)) rfl rfl (del_eq s0 s1 s2) (del_le s0 s1 s2) ?_
 refine go ?_;intros
 cases h
 rw [del_len s0 s1 s2]
 exact r_endg
theorem d_ac9 : OkC [] c_ac9 if_ac9 ks_ac9 := by
 refine ok fun G H ⟨a0, a1⟩ r h => ?_
 refine st1 fun bs t o => ?_
 dsimp only [gf_ac9] at h
 exact cls

theorem d_ab9 : OkC [c_ap9, c_ad9, c_aw9, c_bc9, c_af9, c_ax9, c_do9, c_at9, c_ec9] c_ab9 if_ab9 ks_ab9 := by
 refine ok fun G H ⟨a0, a1⟩ r h => ?_
 have H_ec9 := H _ (.tail _ (.tail _ (.tail _ (.tail _ (.tail _ (.tail _ (.tail _ (.tail _ (.head _)))))))))
 replace H := hpre 8 H
 refine st1 fun bs t o => ?_
 dsimp only [gf_ab9] at h
 refine gx fun x1 h2 x3 h4 x7 h8 => ?_; intros; rename_i h
 obtain ⟨hf, h⟩ := gd h
 obtain ⟨q168, hq, h⟩ := bnd h
 refine w_lastK [] [] (fun K J t o => ∃ q168_ b232 c233, q168 = .inr q168_ ∧ PP ((6, .ref 2000006 b232 c233 0 q168_.length 100) :: K) ((2000006, ent b232 c233 100 (List.map (eFeat false) q168_)) :: J) t o) ?_ ?_
 ·have ho1 := h
  refine w_lpL (xs := a1) [0, 23, 24] [] 0 hf (fun K J l175 k173 t o => ∃ v170 b171 c172, gl_ac9 a0 l175 k173 v170 = some q168 ∧ PP ((6, .ref 2000006 b171 c172 0 v170.length 100) :: (25, .v (.int .i64 (k173 : Int))) :: K) ((2000006, ent b171 c172 100 (List.map (eFeat false) v170)) :: J) t o) ?_ ?_ ?_
  ·exact ⟨_, _, _, hq, pin, pinh⟩
  ·rintro k173 t o hlt ⟨v170, b171, c172, h, pq⟩
   refine pn pq ?_
   rw [gl_ac9] at h
   exact cls
  rintro x174 l175 k173 t o hlt hx179 hw hd ⟨v170, b171, c172, h, pq⟩
  refine pn pq ?_
  rw [gl_ac9] at h
  try (refine gx ?_; intros; rename_i h)
  obtain ⟨q183, hq, h⟩ := bnd h
  refine w_cutK [0, 6, 8, 23, 24, 25] [2000006, 64] (fun K J t o => ∃ b193 c194 b196 c197 b200, PP ((9, .ptr 72 b200 100 0 0) :: (10, .v (.bool q183.1)) :: K) ((1001154, ent b193 c194 66 (List.map ePt q183.2.1)) :: (1001155, ent b196 c197 82 (List.map eTag q183.2.2.1)) :: (72, ⟨b200, 1, 100, true, [[.v (.string q183.2.2.2.1), .v (.int .i64 q183.2.2.2.2), .al 1001154 b193 c194 0 q183.2.1.length 66, .al 1001155 b196 c197 0 q183.2.2.1.length 82]]⟩) :: J) t o) ?_ ?_
  ·have h := hq
   exact cls
  rintro t o ⟨b193, c194, b196, c197, b200, pq⟩
  refine pn pq ?_
  exact cls
 rintro t o ⟨q168, b232, c233, rfl, pq⟩
 refine pnq pq ?_
 try (refine gx ?_; intros; rename_i h)
 obtain ⟨x234, h235, h⟩ := bnd h
 have L235 := l_ec9 h235; (try dsimp only at L235); (first | replace L235 := And.intro L235.1.symm L235.2.symm | replace L235 := L235.symm); (try obtain ⟨L235, M235⟩ := L235); refine c_callg (c := c_ec9) (q168) H_ec9 h235 fun ch => ?_
 exact cls
theorem d_ag9 : OkC [c_be9, c_ab9, c_ah9, c_au9] c_ag9 if_ag9 ks_ag9 := by
 refine ok fun G H ⟨a0, a1⟩ r h => ?_
 refine st1 fun bs t o => ?_
 dsimp only [gf_ag9] at h
 refine gx fun h6 => ?_; intros; rename_i h
 obtain ⟨hf, h⟩ := gd h
 obtain ⟨q172, hq, h⟩ := bnd h
 refine w_lastK [4] [1000512, 1000513, 32] (fun K J t o => ∃ q172_ b238 c239 b4 c5 b240, q172 = .inr q172_ ∧ PP ((6, .ptr 48 b240 210 0 0) :: K) ((1000768, ent b238 c239 115 (List.map (eCommit false) q172_)) :: (1000769, ent b4 c5 130 (List.map eHead ([] ++ a1))) :: (48, ⟨b240, 1, 210, true, [[.al 1000768 b238 c239 0 q172_.length 115, .al 1000769 b4 c5 0 ([] ++ a1).length 130]]⟩) :: J) t o) ?_ ?_
 ·have ho1 := h
  refine w_lpL (xs := a0) [4, 23, 24] [1000512, 1000513, 32] 0 hf (fun K J l180 k178 t o => ∃ v174 b175 c176 b4 c5 b177, gl_ag9_4 l180 k178 v174 = some q172 ∧ PP ((6, .ptr 48 b177 210 0 0) :: (25, .v (.int .i64 (k178 : Int))) :: K) ((1000768, ent b175 c176 115 (List.map (eCommit false) v174)) :: (1000769, ent b4 c5 130 (List.map eHead ([] ++ a1))) :: (48, ⟨b177, 1, 210, true, [[.al 1000768 b175 c176 0 v174.length 115, .al 1000769 b4 c5 0 ([] ++ a1).length 130]]⟩) :: J) t o) ?_ ?_ ?_
  ·exact ⟨_, _, _, _, _, _, hq, pin, pinh⟩
  ·rintro k178 t o hlt ⟨v174, b175, c176, b4, c5, b177, h, pq⟩
   refine pn pq ?_
   rw [gl_ag9_4] at h
   exact cls
  rintro x179 l180 k178 t o hlt hx184 hw hd ⟨v174, b175, c176, b4, c5, b177, h, pq⟩
  refine pn pq ?_
  rw [gl_ag9_4] at h
  try (refine gx ?_; intros; rename_i h)
  obtain ⟨hf, h⟩ := gd h
  obtain ⟨q201, hq, h⟩ := bnd h
  refine w_lastK [4, 6, 8, 23, 24, 25] [1000512, 1000513, 32, 1000768, 1000769, 48, 64] (fun K J t o => ∃ q201_, q201 = .inr q201_ ∧ PP K J t o) ?_ ?_
  ·have ho2 := h
   refine w_lpL (xs := x179.up) [4, 6, 7, 8, 23, 24, 25, 31, 32] [1000512, 1000513, 32, 1000768, 1000769, 48, 64] 0 hf (fun K J l205 k203 t o => gl_ag9_5 k178 l205 k203  = some q201 ∧ PP ((33, .v (.int .i64 (k203 : Int))) :: K) J t o) ?_ ?_ ?_
   ·exact ⟨hq, pin, pinh⟩
   ·rintro k203 t o hlt ⟨h, pq⟩
    refine pn pq ?_
    rw [gl_ag9_5] at h
    exact cls
   rintro x204 l205 k203 t o hlt hx209 hw hd ⟨h, pq⟩
   refine pn pq ?_
   rw [gl_ag9_5] at h
   exact cls
  rintro t o ⟨q201, rfl, pq⟩
  refine pnq pq ?_
  try (refine gx ?_; intros; rename_i h)
  obtain ⟨q219, hq, h⟩ := bnd h
  refine w_cutK [4, 6, 8, 23, 24, 25] [1000512, 1000513, 32, 1000768, 1000769, 48, 64] (fun K J t o => PP ((11, .ro (List.map (eFeat false) q219)) :: K) J t o) ?_ ?_
  ·have h := hq
   exact cls
  rintro t o pq
  refine pn pq ?_
  exact cls
 rintro t o ⟨q172, b238, c239, b4, c5, b240, rfl, pq⟩
 refine pnq pq ?_
 exact cls
theorem d_ez9 : OkC [c_fb9, c_eg9] c_ez9 if_ez9 ks_ez9 := by
 refine ok fun G H ⟨a0, a1⟩ r h => ?_
 refine st1 fun bs t o => ?_
 dsimp only [gf_ez9] at h
 exact cls
theorem d_ed9 : OkC [c_el9, c_ee9, c_ez9, c_ey9, c_ew9, c_ev9] c_ed9 if_ed9 ks_ed9 := by
 refine ok fun G H ⟨a0, a1⟩ r h => ?_
 refine st1 fun bs t o => ?_
 dsimp only [gf_ed9] at h
 refine gx fun x1 h2 x3 h4 => ?_; intros; rename_i h
 obtain ⟨hf, h⟩ := gd h
 obtain ⟨q48, hq, h⟩ := bnd h
 refine w_lastK [] [] (fun K J t o => ∃ q48_, q48 = .inr q48_ ∧ PP ((6, .ro (List.map (eFeat false) q48_)) :: K) J t o) ?_ ?_
 ·have ho1 := h
  refine w_lpL (xs := a1) [0, 1] [] 0 hf (fun K J l53 k51 t o => ∃ v49, gl_ed9_1 a0 l53 k51 v49 = some q48 ∧ PP ((6, .ro (List.map (eFeat false) v49)) :: (7, .v (.int .i64 (k51 : Int))) :: K) J t o) ?_ ?_ ?_
  ·exact ⟨_, hq, pin, pinh⟩
  ·rintro k51 t o hlt ⟨v49, h, pq⟩
   refine pn pq ?_
   rw [gl_ed9_1] at h
   exact cls
  rintro x52 l53 k51 t o hlt hx57 hw hd ⟨v49, h, pq⟩
  refine pn pq ?_
  rw [gl_ed9_1] at h
  exact cls
 rintro t o ⟨q48, rfl, pq⟩
 refine pnq pq ?_
 exact cls
theorem d_fi9 : OkC [] c_fi9 if_fi9 ks_fi9 := by
 refine ok fun G H ⟨a0, a1⟩ r h => ?_
 refine st1 fun bs t o => ?_
 dsimp only [gf_fi9] at h
 exact cls
theorem d_eh9 : OkC [c_fg9, c_ed9, c_ei9, c_fi9] c_eh9 if_eh9 ks_eh9 := by
 refine ok fun G H ⟨a0, a1⟩ r h => ?_
 have H_fi9 := H _ (.tail _ (.tail _ (.tail _ (.head _))))
 replace H := hpre 3 H
 refine st1 fun bs t o => ?_
 dsimp only [gf_eh9] at h
 refine gx fun h5 => ?_; intros; rename_i h
 obtain ⟨hf, h⟩ := gd h
 obtain ⟨q78, hq, h⟩ := bnd h
 refine w_lastK [4] [1000512, 1000513, 32] (fun K J t o => ∃ q78_ b115 c116 b118 c119 b120, q78 = .inr q78_ ∧ PP ((6, .ptr 48 b120 210 0 0) :: K) ((1000768, ent b115 c116 115 (List.map (eCommit false) q78_.1)) :: (1000769, ent b118 c119 130 (List.map eHead q78_.2)) :: (48, ⟨b120, 1, 210, true, [[.al 1000768 b115 c116 0 q78_.1.length 115, .al 1000769 b118 c119 0 q78_.2.length 130]]⟩) :: J) t o) ?_ ?_
 ·have ho1 := h
  refine w_lpL (xs := a0) [0, 4] [1000512, 1000513, 32] 0 hf (fun K J l89 k87 t o => ∃ v80 v83 b81 c82 b84 c85 b86, gl_eh9_1 l89 k87 v80 v83 = some q78 ∧ PP ((6, .ptr 48 b86 210 0 0) :: (7, .v (.int .i64 (k87 : Int))) :: K) ((1000768, ent b81 c82 115 (List.map (eCommit false) v80)) :: (1000769, ent b84 c85 130 (List.map eHead v83)) :: (48, ⟨b86, 1, 210, true, [[.al 1000768 b81 c82 0 v80.length 115, .al 1000769 b84 c85 0 v83.length 130]]⟩) :: J) t o) ?_ ?_ ?_
  ·exact ⟨_, _, _, _, _, _, _, hq, pin, pinh⟩
  ·rintro k87 t o hlt ⟨v80, v83, b81, c82, b84, c85, b86, h, pq⟩
   refine pn pq ?_
   rw [gl_eh9_1] at h
   exact cls
  rintro x88 l89 k87 t o hlt hx93 hw hd ⟨v80, v83, b81, c82, b84, c85, b86, h, pq⟩
  refine pn pq ?_
  rw [gl_eh9_1] at h
  refine gx fun x96 h97 h101 h105 => ?_; intros; rename_i h
  obtain ⟨x106, h107, h⟩ := bnd h
  have L107 := l_fi9 h107; (try dsimp only at L107); (first | replace L107 := And.intro L107.1.symm L107.2.symm | replace L107 := L107.symm); (try obtain ⟨L107, M107⟩ := L107); refine c_callg (c := c_fi9) ((⟨(v80 ++ ([(⟨([] ++ x88.up), [], x88.note⟩ : Commit)] : (List Commit))), v83⟩ : Repo), (k87 : Int)) H_fi9 h107 fun ch => ?_
  refine gx fun x108 h109 x112 h113 => ?_; intros; rename_i h
  refine c_ste (f := (eCommit false)) x106.2.commits (⟨x112.up, x108.1, x112.note⟩ : Commit) (idx_get h113).2 ?_
  exact cls
 rintro t o ⟨q78, b115, c116, b118, c119, b120, rfl, pq⟩
 refine pnq pq ?_
 exact cls
theorem d_ce9 : OkC [c_cn9, c_ck9, c_cm9] c_ce9 if_ce9 ks_ce9 := by
 refine ok fun G H ⟨a0, a1⟩ r h => ?_
 have H_ck9 := H _ (.tail _ (.head _))
 have H_cm9 := H _ (.tail _ (.tail _ (.head _)))
 replace H := hpre 1 H
 refine st1 fun bs t o => ?_
 dsimp only [gf_ce9] at h
 try (refine gx ?_; intros; rename_i h)
 obtain ⟨q148, hq, h⟩ := bnd h
 refine w_lastK [] [] (fun K J t o => PP ((1, .v (.int .i64 q148.1)) :: K) ((0, ent (bs 0).1 (bs 0).2 155 (List.map (eChange true) q148.2)) :: J) t o) ?_ ?_
 ·refine w_lpF [] [] (fun K J n152 t o => ∃ v149 v150 v151, gl_ce9_1 n152 v149 v150 v151 = some q148 ∧ PP ((0, .ref 0 (bs 0).1 (bs 0).2 0 v151.length 155) :: (1, .v (.int .i64 v149)) :: (5, .v (.int .i64 v150)) :: K) ((0, ent (bs 0).1 (bs 0).2 155 (List.map (eChange true) v151)) :: J) t o) ?_ ?_
  ·exact ⟨_, _, _, hq, pin, pinh⟩
  rintro n152 t o ⟨v149, v150, v151, h, pq⟩
  refine pn pq ?_
  cases n152 with
  | zero => rw [gl_ce9_1] at h; cases h
  | succ n152 =>
   rw [gl_ce9_1] at h
   refine gx fun x153 h154 x155 h156 => ?_; intros; rename_i h
   refine c_ste (f := (eChange true)) v151 (⟨x153, x155.had, x155.was, x155.has, x155.now⟩ : Change) (idx_get h156).2 ?_
   refine gx fun x157 h158 => ?_; intros; rename_i h
   refine c_ste (f := (eChange true)) (List.set v151 v150.toNat (⟨x153, x155.had, x155.was, x155.has, x155.now⟩ : Change)) (⟨x157.id, ((Int.tmod (IntKind.i64.wrap (v149 + 1)) 3) == 0), x157.was, x157.has, x157.now⟩ : Change) (idx_get h158).2 ?_
   try (refine gx ?_; intros; rename_i h)
   obtain ⟨q159, hq, h⟩ := bnd h
   refine w_cutK [1, 5] [] (fun K J t o => PP ((0, .ref 0 (bs 0).1 (bs 0).2 0 q159.length 155) :: K) ((0, ent (bs 0).1 (bs 0).2 155 (List.map (eChange true) q159)) :: J) t o) ?_ ?_
   ·have h := hq
    refine gx fun x160 h161 x162 h163 => ?_; intros; rename_i h
    refine c_ste (f := (eChange true)) (List.set (List.set v151 v150.toNat (⟨x153, x155.had, x155.was, x155.has, x155.now⟩ : Change)) v150.toNat (⟨x157.id, ((Int.tmod (IntKind.i64.wrap (v149 + 1)) 3) == 0), x157.was, x157.has, x157.now⟩ : Change)) (⟨x162.id, x162.had, ⟨x160, x162.was.shape, x162.was.tags⟩, x162.has, x162.now⟩ : Change) (idx_get h163).2 ?_
    exact cls
   rintro t o pq
   refine pn pq ?_
   refine gx fun x165 h166 => ?_; intros; rename_i h
   refine c_ste (f := (eChange true)) q159 (⟨x165.id, x165.had, ⟨x165.was.id, ⟨(IntKind.i64.wrap ((IntKind.i64.wrap ((IntKind.i64.wrap (v149 + 1)) + 1)) + 1)), x165.was.shape.pts⟩, x165.was.tags⟩, x165.has, x165.now⟩ : Change) (idx_get h166).2 ?_
   refine gx fun x167 h168 => ?_; intros; rename_i h
   refine r_lopg (f := (eChange true)) (g := ePt) (xs := (List.set q159 v150.toNat (⟨x165.id, x165.had, ⟨x165.was.id, ⟨(IntKind.i64.wrap ((IntKind.i64.wrap ((IntKind.i64.wrap (v149 + 1)) + 1)) + 1)), x165.was.shape.pts⟩, x165.was.tags⟩, x165.has, x165.now⟩ : Change))) (x := x167) (ys := x167.was.shape.pts) (idx_get h168).2 rfl rfl rfl fun b169 c170 => ?_
   try (refine gx ?_; intros; rename_i h)
   obtain ⟨x171, h172, h⟩ := bnd h
   have L172 := l_ck9 h172; (try dsimp only at L172); (first | replace L172 := And.intro L172.1.symm L172.2.symm | replace L172 := L172.symm); (try obtain ⟨L172, M172⟩ := L172); refine c_callg (c := c_ck9) (x167.was.shape.pts, (IntKind.i64.wrap ((IntKind.i64.wrap ((IntKind.i64.wrap ((IntKind.i64.wrap (v149 + 1)) + 1)) + 1)) + 1))) H_ck9 h172 fun ch => ?_
   try (refine gx ?_; intros; rename_i h)
   refine c_shg (f := (eChange true)) (⟨x167.id, x167.had, ⟨x167.was.id, ⟨x167.was.shape.kind, x171.2⟩, x167.was.tags⟩, x167.has, x167.now⟩ : Change) (idx_get h168).2 ?_
   refine gx fun x173 h174 => ?_; intros; rename_i h
   refine r_lopg (f := (eChange true)) (g := eTag) (xs := (List.set (List.set q159 v150.toNat (⟨x165.id, x165.had, ⟨x165.was.id, ⟨(IntKind.i64.wrap ((IntKind.i64.wrap ((IntKind.i64.wrap (v149 + 1)) + 1)) + 1)), x165.was.shape.pts⟩, x165.was.tags⟩, x165.has, x165.now⟩ : Change)) v150.toNat (⟨x167.id, x167.had, ⟨x167.was.id, ⟨x167.was.shape.kind, x171.2⟩, x167.was.tags⟩, x167.has, x167.now⟩ : Change))) (x := x173) (ys := x173.was.tags) (idx_get h174).2 rfl rfl rfl fun b175 c176 => ?_
   try (refine gx ?_; intros; rename_i h)
   obtain ⟨x177, h178, h⟩ := bnd h
   have L178 := l_cm9 h178; (try dsimp only at L178); (first | replace L178 := And.intro L178.1.symm L178.2.symm | replace L178 := L178.symm); (try obtain ⟨L178, M178⟩ := L178); refine c_callg (c := c_cm9) (x173.was.tags, x171.1) H_cm9 h178 fun ch => ?_
   try (refine gx ?_; intros; rename_i h)
   refine c_shg (f := (eChange true)) (⟨x173.id, x173.had, ⟨x173.was.id, x173.was.shape, x177.2⟩, x173.has, x173.now⟩ : Change) (idx_get h174).2 ?_
   refine gx fun x179 h180 => ?_; intros; rename_i h
   refine c_ste (f := (eChange true)) (List.set (List.set (List.set q159 v150.toNat (⟨x165.id, x165.had, ⟨x165.was.id, ⟨(IntKind.i64.wrap ((IntKind.i64.wrap ((IntKind.i64.wrap (v149 + 1)) + 1)) + 1)), x165.was.shape.pts⟩, x165.was.tags⟩, x165.has, x165.now⟩ : Change)) v150.toNat (⟨x167.id, x167.had, ⟨x167.was.id, ⟨x167.was.shape.kind, x171.2⟩, x167.was.tags⟩, x167.has, x167.now⟩ : Change)) v150.toNat (⟨x173.id, x173.had, ⟨x173.was.id, x173.was.shape, x177.2⟩, x173.has, x173.now⟩ : Change)) (⟨x179.id, x179.had, x179.was, ((Int.tmod x177.1 3) == 0), x179.now⟩ : Change) (idx_get h180).2 ?_
   try (refine gx ?_; intros; rename_i h)
   obtain ⟨q181, hq, h⟩ := bnd h
   refine w_cutK [1, 5] [] (fun K J t o => PP ((0, .ref 0 (bs 0).1 (bs 0).2 0 q181.length 155) :: K) ((0, ent (bs 0).1 (bs 0).2 155 (List.map (eChange true) q181)) :: J) t o) ?_ ?_
   ·have h := hq
    refine gx fun x182 h183 x184 h185 => ?_; intros; rename_i h
    refine c_ste (f := (eChange true)) (List.set (List.set (List.set (List.set q159 v150.toNat (⟨x165.id, x165.had, ⟨x165.was.id, ⟨(IntKind.i64.wrap ((IntKind.i64.wrap ((IntKind.i64.wrap (v149 + 1)) + 1)) + 1)), x165.was.shape.pts⟩, x165.was.tags⟩, x165.has, x165.now⟩ : Change)) v150.toNat (⟨x167.id, x167.had, ⟨x167.was.id, ⟨x167.was.shape.kind, x171.2⟩, x167.was.tags⟩, x167.has, x167.now⟩ : Change)) v150.toNat (⟨x173.id, x173.had, ⟨x173.was.id, x173.was.shape, x177.2⟩, x173.has, x173.now⟩ : Change)) v150.toNat (⟨x179.id, x179.had, x179.was, ((Int.tmod x177.1 3) == 0), x179.now⟩ : Change)) (⟨x184.id, x184.had, x184.was, x184.has, ⟨x182, x184.now.shape, x184.now.tags⟩⟩ : Change) (idx_get h185).2 ?_
    exact cls
   rintro t o pq
   refine pn pq ?_
   refine gx fun x187 h188 => ?_; intros; rename_i h
   refine c_ste (f := (eChange true)) q181 (⟨x187.id, x187.had, x187.was, x187.has, ⟨x187.now.id, ⟨(IntKind.i64.wrap ((IntKind.i64.wrap (x177.1 + 1)) + 1)), x187.now.shape.pts⟩, x187.now.tags⟩⟩ : Change) (idx_get h188).2 ?_
   refine gx fun x189 h190 => ?_; intros; rename_i h
   refine r_lopg (f := (eChange true)) (g := ePt) (xs := (List.set q181 v150.toNat (⟨x187.id, x187.had, x187.was, x187.has, ⟨x187.now.id, ⟨(IntKind.i64.wrap ((IntKind.i64.wrap (x177.1 + 1)) + 1)), x187.now.shape.pts⟩, x187.now.tags⟩⟩ : Change))) (x := x189) (ys := x189.now.shape.pts) (idx_get h190).2 rfl rfl rfl fun b191 c192 => ?_
   try (refine gx ?_; intros; rename_i h)
   obtain ⟨x193, h194, h⟩ := bnd h
   have L194 := l_ck9 h194; (try dsimp only at L194); (first | replace L194 := And.intro L194.1.symm L194.2.symm | replace L194 := L194.symm); (try obtain ⟨L194, M194⟩ := L194); refine c_callg (c := c_ck9) (x189.now.shape.pts, (IntKind.i64.wrap ((IntKind.i64.wrap ((IntKind.i64.wrap (x177.1 + 1)) + 1)) + 1))) H_ck9 h194 fun ch => ?_
   try (refine gx ?_; intros; rename_i h)
   refine c_shg (f := (eChange true)) (⟨x189.id, x189.had, x189.was, x189.has, ⟨x189.now.id, ⟨x189.now.shape.kind, x193.2⟩, x189.now.tags⟩⟩ : Change) (idx_get h190).2 ?_
   refine gx fun x195 h196 => ?_; intros; rename_i h
   refine r_lopg (f := (eChange true)) (g := eTag) (xs := (List.set (List.set q181 v150.toNat (⟨x187.id, x187.had, x187.was, x187.has, ⟨x187.now.id, ⟨(IntKind.i64.wrap ((IntKind.i64.wrap (x177.1 + 1)) + 1)), x187.now.shape.pts⟩, x187.now.tags⟩⟩ : Change)) v150.toNat (⟨x189.id, x189.had, x189.was, x189.has, ⟨x189.now.id, ⟨x189.now.shape.kind, x193.2⟩, x189.now.tags⟩⟩ : Change))) (x := x195) (ys := x195.now.tags) (idx_get h196).2 rfl rfl rfl fun b197 c198 => ?_
   try (refine gx ?_; intros; rename_i h)
   obtain ⟨x199, h200, h⟩ := bnd h
   have L200 := l_cm9 h200; (try dsimp only at L200); (first | replace L200 := And.intro L200.1.symm L200.2.symm | replace L200 := L200.symm); (try obtain ⟨L200, M200⟩ := L200); refine c_callg (c := c_cm9) (x195.now.tags, x193.1) H_cm9 h200 fun ch => ?_
   try (refine gx ?_; intros; rename_i h)
   refine c_shg (f := (eChange true)) (⟨x195.id, x195.had, x195.was, x195.has, ⟨x195.now.id, x195.now.shape, x199.2⟩⟩ : Change) (idx_get h196).2 ?_
   exact cls
 rintro t o pq
 refine pnq pq ?_
 exact cls
end Go.Proofs.AM
