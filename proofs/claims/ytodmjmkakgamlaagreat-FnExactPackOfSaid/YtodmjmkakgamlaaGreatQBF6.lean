/- Lemmas of the proof (QBF6), on an abstract machine. Conditions: none. -/
import Derived.Test.YtodmjmkakgamlaaGreatQBD
set_option linter.unusedVariables false
set_option maxRecDepth 100000
set_option maxHeartbeats 4000000
namespace Go.Proofs.AM
attribute [local irreducible] vwp vstps vstpLs vstp vdo vret kseq kblk kloop kend kcut kloop2 frzV renV shutK pfzV trnV unrV
theorem d_dw9 : OkC [c_dx9, c_ew9, c_eo9, c_ev9] c_dw9 if_dw9 ks_dw9 := by
 refine ok fun G H a0 r h => ?_
 refine st1 fun bs t o => ?_
 dsimp only [gf_dw9] at h
 try (refine gx ?_; intros; rename_i h)
 obtain ⟨hf, h⟩ := gd h
 obtain ⟨q76, hq, h⟩ := bnd h
 refine w_lastK [] [] (fun K J t o => ∃ b112 c113, PP ((3, .ref 48 b112 c113 0 q76.length 163) :: K) ((48, ent b112 c113 163 (List.map (eEntry true) q76)) :: J) t o) ?_ ?_
 ·refine w_lpL (xs := a0.commits) [1] [8] 0 hf (fun K J l83 k81 t o => ∃ v78 b79 c80, gl_dw9_1 a0 l83 k81 v78 = some q76 ∧ PP ((3, .ref 48 b79 c80 0 v78.length 163) :: (4, .v (.int .i64 (k81 : Int))) :: K) ((48, ent b79 c80 163 (List.map (eEntry true) v78)) :: J) t o) ?_ ?_ ?_
  ·exact ⟨_, _, _, hq, pin, pinh⟩
  ·rintro k81 t o hlt ⟨v78, b79, c80, h, pq⟩
   refine pn pq ?_
   rw [gl_dw9_1] at h
   exact cls
  rintro x82 l83 k81 t o hlt hx87 hw hd ⟨v78, b79, c80, h, pq⟩
  refine pn pq ?_
  rw [gl_dw9_1] at h
  exact cls
 rintro t o ⟨b112, c113, pq⟩
 refine pnq pq ?_
 exact cls
theorem d_ab9 : OkC [c_an9, c_au9, c_ax9, c_aa9] c_ab9 if_ab9 ks_ab9 := by
 refine ok fun G H ⟨a0, a1⟩ r h => ?_
 refine st1 fun bs t o => ?_
 dsimp only [gf_ab9] at h
 refine gx fun x2 h3 x4 h5 x7 h8 => ?_; intros; rename_i h
 obtain ⟨hf, h⟩ := gd h
 obtain ⟨q111, hq, h⟩ := bnd h
 refine w_lastK [] [] (fun K J t o => ∃ b156 c157, PP ((5, .ref 72 b156 c157 0 q111.length 155) :: K) ((72, ent b156 c157 155 (List.map (eChange true) q111)) :: J) t o) ?_ ?_
 ·refine w_lpL (xs := x7) [0, 1, 22, 23] [176] 0 hf (fun K J l118 k116 t o => ∃ v113 b114 c115, gl_ab9_1 a0 a1 l118 k116 v113 = some q111 ∧ PP ((5, .ref 72 b114 c115 0 v113.length 155) :: (24, .v (.int .i64 (k116 : Int))) :: K) ((72, ent b114 c115 155 (List.map (eChange true) v113)) :: J) t o) ?_ ?_ ?_
  ·exact ⟨_, _, _, hq, pin, pinh⟩
  ·rintro k116 t o hlt ⟨v113, b114, c115, h, pq⟩
   refine pn pq ?_
   rw [gl_ab9_1] at h
   exact cls
  rintro x117 l118 k116 t o hlt hx122 hw hd ⟨v113, b114, c115, h, pq⟩
  refine pn pq ?_
  rw [gl_ab9_1] at h
  try (refine gx ?_; intros; rename_i h)
  obtain ⟨q126, hq, h⟩ := bnd h
  refine w_cutK [0, 1, 5, 7, 22, 23, 24] [72, 176] (fun K J t o => ∃ b134 c135 b137 c138 b142, PP ((8, .ptr 64 b142 155 0 0) :: K) ((1001028, ent b134 c135 66 (List.map ePt q126.1)) :: (1001029, ent b137 c138 82 (List.map eTag q126.2.1)) :: (1001033, ent none 0 66 (List.map ePt [])) :: (1001034, ent none 0 82 (List.map eTag [])) :: (64, ⟨b142, 1, 155, true, [[.v (.string x117), .v (.bool q126.2.2.1), .v (.string q126.2.2.2.1), .v (.int .i64 q126.2.2.2.2), .al 1001028 b134 c135 0 q126.1.length 66, .al 1001029 b137 c138 0 q126.2.1.length 82, .v (.bool false), .v (.string (⟨#[]⟩ : Str)), .v (.int .i64 0), .al 1001033 none 0 0 ([] : List Pt).length 66, .al 1001034 none 0 0 ([] : List Tag).length 82]]⟩) :: J) t o) ?_ ?_
  ·have h := hq
   exact cls
  rintro t o ⟨b134, c135, b137, c138, b142, pq⟩
  refine pn pq ?_
  exact cls
 rintro t o ⟨b156, c157, pq⟩
 refine pnq pq ?_
 exact cls
theorem d_ae9 : OkC [c_af9, c_ab9] c_ae9 if_ae9 ks_ae9 := by
 refine ok fun G H a0 r h => ?_
 refine st1 fun bs t o => ?_
 dsimp only [gf_ae9] at h
 refine gx fun x3 h4 => ?_; intros; rename_i h
 obtain ⟨hf, h⟩ := gd h
 obtain ⟨q87, hq, h⟩ := bnd h
 refine w_lastK [] [] (fun K J t o => ∃ b126 c127, PP ((3, .ref 56 b126 c127 0 q87.length 163) :: K) ((56, ent b126 c127 163 (List.map (eEntry true) q87)) :: J) t o) ?_ ?_
 ·refine w_lpL (xs := a0.commits) [1, 13, 14] [8] 0 hf (fun K J l94 k92 t o => ∃ v89 b90 c91, gl_ae9_1 a0 l94 k92 v89 = some q87 ∧ PP ((3, .ref 56 b90 c91 0 v89.length 163) :: (15, .v (.int .i64 (k92 : Int))) :: K) ((56, ent b90 c91 163 (List.map (eEntry true) v89)) :: J) t o) ?_ ?_ ?_
  ·exact ⟨_, _, _, hq, pin, pinh⟩
  ·rintro k92 t o hlt ⟨v89, b90, c91, h, pq⟩
   refine pn pq ?_
   rw [gl_ae9_1] at h
   exact cls
  rintro x93 l94 k92 t o hlt hx98 hw hd ⟨v89, b90, c91, h, pq⟩
  refine pn pq ?_
  rw [gl_ae9_1] at h
  try (refine gx ?_; intros; rename_i h)
  obtain ⟨q107, hq, h⟩ := bnd h
  refine w_cutK [1, 3, 5, 13, 14, 15] [8, 56, 40] (fun K J t o => PP ((6, .ro (List.map (eFeat false) q107)) :: K) J t o) ?_ ?_
  ·have h := hq
   exact cls
  rintro t o pq
  refine pn pq ?_
  exact cls
 rintro t o ⟨b126, c127, pq⟩
 refine pnq pq ?_
 exact cls
theorem d_bw9 : OkC [c_cf9, c_cc9, c_ce9] c_bw9 if_bw9 ks_bw9 := by
 refine ok fun G H ⟨a0, a1⟩ r h => ?_
 have H_cc9 := H _ (.tail _ (.head _))
 have H_ce9 := H _ (.tail _ (.tail _ (.head _)))
 replace H := hpre 1 H
 refine st1 fun bs t o => ?_
 dsimp only [gf_bw9] at h
 try (refine gx ?_; intros; rename_i h)
 obtain ⟨q148, hq, h⟩ := bnd h
 refine w_lastK [] [] (fun K J t o => PP ((1, .v (.int .i64 q148.1)) :: K) ((0, ent (bs 0).1 (bs 0).2 155 (List.map (eChange true) q148.2)) :: J) t o) ?_ ?_
 ·refine w_lpF [] [] (fun K J n152 t o => ∃ v149 v150 v151, gl_bw9_1 n152 v149 v150 v151 = some q148 ∧ PP ((0, .ref 0 (bs 0).1 (bs 0).2 0 v151.length 155) :: (1, .v (.int .i64 v149)) :: (5, .v (.int .i64 v150)) :: K) ((0, ent (bs 0).1 (bs 0).2 155 (List.map (eChange true) v151)) :: J) t o) ?_ ?_
  ·exact ⟨_, _, _, hq, pin, pinh⟩
  rintro n152 t o ⟨v149, v150, v151, h, pq⟩
  refine pn pq ?_
  cases n152 with
  | zero => rw [gl_bw9_1] at h; cases h
  | succ n152 =>
   rw [gl_bw9_1] at h
   refine gx fun x153 h154 x155 h156 => ?_; intros; rename_i h
   refine c_ste (f := (eChange true)) v151 (⟨x153, x155.had, x155.was, x155.has, x155.now⟩ : Change) (idx_get h156).2 ?_
   refine gx fun x157 h158 => ?_; intros; rename_i h
   refine c_ste (f := (eChange true)) (List.set v151 v150.toNat (⟨x153, x155.had, x155.was, x155.has, x155.now⟩ : Change)) (⟨x157.id, ((Int.tmod (IntKind.i64.wrap (v149 + 1)) 3) == 0), x157.was, x157.has, x157.now⟩ : Change) (idx_get h158).2 ?_
   try (refine gx ?_; intros; rename_i h)
   obtain ⟨q159, hq, h⟩ := bnd h
   refine w_cutK [1, 5] [] (fun K J t o => PP ((0, .ref 0 (bs 0).1 (bs 0).2 0 q159.length 155) :: K) ((0, ent (bs 0).1 (bs 0).2 155 (List.map (eChange true) q159)) :: J) t o) ?_ ?_
   ·have h := hq
    refine gx fun x160 h161 x162 h163 => ?_; intros; rename_i h
    refine c_ste (f := (eChange true)) (List.set (List.set v151 v150.toNat (⟨x153, x155.had, x155.was, x155.has, x155.now⟩ : Change)) v150.toNat (⟨x157.id, ((Int.tmod (IntKind.i64.wrap (v149 + 1)) 3) == 0), x157.was, x157.has, x157.now⟩ : Change)) (⟨x162.id, x162.had, ⟨x160, x162.was.shape, x162.was.tags⟩, x162.has, x162.now⟩ : Change) (idx_get h163).2 ?_
    exact cls
   rintro t o pq
   refine pn pq ?_
   refine gx fun x165 h166 => ?_; intros; rename_i h
   refine c_ste (f := (eChange true)) q159 (⟨x165.id, x165.had, ⟨x165.was.id, ⟨(IntKind.i64.wrap ((IntKind.i64.wrap ((IntKind.i64.wrap (v149 + 1)) + 1)) + 1)), x165.was.shape.pts⟩, x165.was.tags⟩, x165.has, x165.now⟩ : Change) (idx_get h166).2 ?_
   refine gx fun x167 h168 => ?_; intros; rename_i h
   refine r_lopg (f := (eChange true)) (g := ePt) (xs := (List.set q159 v150.toNat (⟨x165.id, x165.had, ⟨x165.was.id, ⟨(IntKind.i64.wrap ((IntKind.i64.wrap ((IntKind.i64.wrap (v149 + 1)) + 1)) + 1)), x165.was.shape.pts⟩, x165.was.tags⟩, x165.has, x165.now⟩ : Change))) (x := x167) (ys := x167.was.shape.pts) (idx_get h168).2 rfl rfl rfl fun b169 c170 => ?_
   try (refine gx ?_; intros; rename_i h)
   obtain ⟨x171, h172, h⟩ := bnd h
   have L172 := l_cc9 h172; (try dsimp only at L172); (first | replace L172 := And.intro L172.1.symm L172.2.symm | replace L172 := L172.symm); refine c_callg (c := c_cc9) (x167.was.shape.pts, (IntKind.i64.wrap ((IntKind.i64.wrap ((IntKind.i64.wrap ((IntKind.i64.wrap (v149 + 1)) + 1)) + 1)) + 1))) H_cc9 h172 fun ch => ?_
   try (refine gx ?_; intros; rename_i h)
   refine c_shg (f := (eChange true)) (⟨x167.id, x167.had, ⟨x167.was.id, ⟨x167.was.shape.kind, x171.2⟩, x167.was.tags⟩, x167.has, x167.now⟩ : Change) (idx_get h168).2 ?_
   refine gx fun x173 h174 => ?_; intros; rename_i h
   refine r_lopg (f := (eChange true)) (g := eTag) (xs := (List.set (List.set q159 v150.toNat (⟨x165.id, x165.had, ⟨x165.was.id, ⟨(IntKind.i64.wrap ((IntKind.i64.wrap ((IntKind.i64.wrap (v149 + 1)) + 1)) + 1)), x165.was.shape.pts⟩, x165.was.tags⟩, x165.has, x165.now⟩ : Change)) v150.toNat (⟨x167.id, x167.had, ⟨x167.was.id, ⟨x167.was.shape.kind, x171.2⟩, x167.was.tags⟩, x167.has, x167.now⟩ : Change))) (x := x173) (ys := x173.was.tags) (idx_get h174).2 rfl rfl rfl fun b175 c176 => ?_
   try (refine gx ?_; intros; rename_i h)
   obtain ⟨x177, h178, h⟩ := bnd h
   have L178 := l_ce9 h178; (try dsimp only at L178); (first | replace L178 := And.intro L178.1.symm L178.2.symm | replace L178 := L178.symm); refine c_callg (c := c_ce9) (x173.was.tags, x171.1) H_ce9 h178 fun ch => ?_
   try (refine gx ?_; intros; rename_i h)
   refine c_shg (f := (eChange true)) (⟨x173.id, x173.had, ⟨x173.was.id, x173.was.shape, x177.2⟩, x173.has, x173.now⟩ : Change) (idx_get h174).2 ?_
   refine gx fun x179 h180 => ?_; intros; rename_i h
   refine c_ste (f := (eChange true)) (List.set (List.set (List.set q159 v150.toNat (⟨x165.id, x165.had, ⟨x165.was.id, ⟨(IntKind.i64.wrap ((IntKind.i64.wrap ((IntKind.i64.wrap (v149 + 1)) + 1)) + 1)), x165.was.shape.pts⟩, x165.was.tags⟩, x165.has, x165.now⟩ : Change)) v150.toNat (⟨x167.id, x167.had, ⟨x167.was.id, ⟨x167.was.shape.kind, x171.2⟩, x167.was.tags⟩, x167.has, x167.now⟩ : Change)) v150.toNat (⟨x173.id, x173.had, ⟨x173.was.id, x173.was.shape, x177.2⟩, x173.has, x173.now⟩ : Change)) (⟨x179.id, x179.had, x179.was, ((Int.tmod x177.1 3) == 0), x179.now⟩ : Change) (idx_get h180).2 ?_
   try (refine gx ?_; intros; rename_i h)
   obtain ⟨q181, hq, h⟩ := bnd h
   refine w_cutK [1, 5] [] (fun K J t o => PP ((0, .ref 0 (bs 0).1 (bs 0).2 0 q181.length 155) :: K) ((0, ent (bs 0).1 (bs 0).2 155 (List.map (eChange true) q181)) :: J) t o) ?_ ?_
   ·have h := hq
    refine gx fun x182 h183 x184 h185 => ?_; intros; rename_i h
    refine c_ste (f := (eChange true)) (List.set (List.set (List.set (List.set q159 v150.toNat (⟨x165.id, x165.had, ⟨x165.was.id, ⟨(IntKind.i64.wrap ((IntKind.i64.wrap ((IntKind.i64.wrap (v149 + 1)) + 1)) + 1)), x165.was.shape.pts⟩, x165.was.tags⟩, x165.has, x165.now⟩ : Change)) v150.toNat (⟨x167.id, x167.had, ⟨x167.was.id, ⟨x167.was.shape.kind, x171.2⟩, x167.was.tags⟩, x167.has, x167.now⟩ : Change)) v150.toNat (⟨x173.id, x173.had, ⟨x173.was.id, x173.was.shape, x177.2⟩, x173.has, x173.now⟩ : Change)) v150.toNat (⟨x179.id, x179.had, x179.was, ((Int.tmod x177.1 3) == 0), x179.now⟩ : Change)) (⟨x184.id, x184.had, x184.was, x184.has, ⟨x182, x184.now.shape, x184.now.tags⟩⟩ : Change) (idx_get h185).2 ?_
    exact cls
   rintro t o pq
   refine pn pq ?_
   refine gx fun x187 h188 => ?_; intros; rename_i h
   refine c_ste (f := (eChange true)) q181 (⟨x187.id, x187.had, x187.was, x187.has, ⟨x187.now.id, ⟨(IntKind.i64.wrap ((IntKind.i64.wrap (x177.1 + 1)) + 1)), x187.now.shape.pts⟩, x187.now.tags⟩⟩ : Change) (idx_get h188).2 ?_
   refine gx fun x189 h190 => ?_; intros; rename_i h
   refine r_lopg (f := (eChange true)) (g := ePt) (xs := (List.set q181 v150.toNat (⟨x187.id, x187.had, x187.was, x187.has, ⟨x187.now.id, ⟨(IntKind.i64.wrap ((IntKind.i64.wrap (x177.1 + 1)) + 1)), x187.now.shape.pts⟩, x187.now.tags⟩⟩ : Change))) (x := x189) (ys := x189.now.shape.pts) (idx_get h190).2 rfl rfl rfl fun b191 c192 => ?_
   try (refine gx ?_; intros; rename_i h)
   obtain ⟨x193, h194, h⟩ := bnd h
   have L194 := l_cc9 h194; (try dsimp only at L194); (first | replace L194 := And.intro L194.1.symm L194.2.symm | replace L194 := L194.symm); refine c_callg (c := c_cc9) (x189.now.shape.pts, (IntKind.i64.wrap ((IntKind.i64.wrap ((IntKind.i64.wrap (x177.1 + 1)) + 1)) + 1))) H_cc9 h194 fun ch => ?_
   try (refine gx ?_; intros; rename_i h)
   refine c_shg (f := (eChange true)) (⟨x189.id, x189.had, x189.was, x189.has, ⟨x189.now.id, ⟨x189.now.shape.kind, x193.2⟩, x189.now.tags⟩⟩ : Change) (idx_get h190).2 ?_
   refine gx fun x195 h196 => ?_; intros; rename_i h
   refine r_lopg (f := (eChange true)) (g := eTag) (xs := (List.set (List.set q181 v150.toNat (⟨x187.id, x187.had, x187.was, x187.has, ⟨x187.now.id, ⟨(IntKind.i64.wrap ((IntKind.i64.wrap (x177.1 + 1)) + 1)), x187.now.shape.pts⟩, x187.now.tags⟩⟩ : Change)) v150.toNat (⟨x189.id, x189.had, x189.was, x189.has, ⟨x189.now.id, ⟨x189.now.shape.kind, x193.2⟩, x189.now.tags⟩⟩ : Change))) (x := x195) (ys := x195.now.tags) (idx_get h196).2 rfl rfl rfl fun b197 c198 => ?_
   try (refine gx ?_; intros; rename_i h)
   obtain ⟨x199, h200, h⟩ := bnd h
   have L200 := l_ce9 h200; (try dsimp only at L200); (first | replace L200 := And.intro L200.1.symm L200.2.symm | replace L200 := L200.symm); refine c_callg (c := c_ce9) (x195.now.tags, x193.1) H_ce9 h200 fun ch => ?_
   try (refine gx ?_; intros; rename_i h)
   refine c_shg (f := (eChange true)) (⟨x195.id, x195.had, x195.was, x195.has, ⟨x195.now.id, x195.now.shape, x199.2⟩⟩ : Change) (idx_get h196).2 ?_
   exact cls
 rintro t o pq
 refine pnq pq ?_
 exact cls
theorem d_by9 : OkC [c_cf9, c_cb9, c_bw9] c_by9 if_by9 ks_by9 := by
 refine ok fun G H ⟨a0, a1⟩ r h => ?_
 have H_cb9 := H _ (.tail _ (.head _))
 have H_bw9 := H _ (.tail _ (.tail _ (.head _)))
 replace H := hpre 1 H
 refine st1 fun bs t o => ?_
 dsimp only [gf_by9] at h
 try (refine gx ?_; intros; rename_i h)
 obtain ⟨q52, hq, h⟩ := bnd h
 refine w_lastK [] [] (fun K J t o => PP ((1, .v (.int .i64 q52.1)) :: K) ((0, ent (bs 0).1 (bs 0).2 163 (List.map (eEntry true) q52.2)) :: J) t o) ?_ ?_
 ·refine w_lpF [] [] (fun K J n56 t o => ∃ v53 v54 v55, gl_by9_1 n56 v53 v54 v55 = some q52 ∧ PP ((0, .ref 0 (bs 0).1 (bs 0).2 0 v55.length 163) :: (1, .v (.int .i64 v53)) :: (5, .v (.int .i64 v54)) :: K) ((0, ent (bs 0).1 (bs 0).2 163 (List.map (eEntry true) v55)) :: J) t o) ?_ ?_
  ·exact ⟨_, _, _, hq, pin, pinh⟩
  rintro n56 t o ⟨v53, v54, v55, h, pq⟩
  refine pn pq ?_
  cases n56 with
  | zero => rw [gl_by9_1] at h; cases h
  | succ n56 =>
   rw [gl_by9_1] at h
   refine gx fun x57 h58 => ?_; intros; rename_i h
   refine r_lopg (f := (eEntry true)) (g := eInt) (xs := v55) (x := x57) (ys := x57.up) (idx_get h58).2 rfl rfl rfl fun b59 c60 => ?_
   try (refine gx ?_; intros; rename_i h)
   obtain ⟨x61, h62, h⟩ := bnd h
   have L62 := l_cb9 h62; (try dsimp only at L62); (first | replace L62 := And.intro L62.1.symm L62.2.symm | replace L62 := L62.symm); refine c_callg (c := c_cb9) (x57.up, v53) H_cb9 h62 fun ch => ?_
   try (refine gx ?_; intros; rename_i h)
   refine c_shg (f := (eEntry true)) (⟨x61.2, x57.note, x57.diff⟩ : Entry) (idx_get h58).2 ?_
   refine gx fun x63 h64 x65 h66 => ?_; intros; rename_i h
   refine c_ste (f := (eEntry true)) (List.set v55 v54.toNat (⟨x61.2, x57.note, x57.diff⟩ : Entry)) (⟨x65.up, x63, x65.diff⟩ : Entry) (idx_get h66).2 ?_
   refine gx fun x67 h68 => ?_; intros; rename_i h
   refine r_lopg (f := (eEntry true)) (g := (eChange true)) (xs := (List.set (List.set v55 v54.toNat (⟨x61.2, x57.note, x57.diff⟩ : Entry)) v54.toNat (⟨x65.up, x63, x65.diff⟩ : Entry))) (x := x67) (ys := x67.diff) (idx_get h68).2 rfl rfl rfl fun b69 c70 => ?_
   try (refine gx ?_; intros; rename_i h)
   obtain ⟨x71, h72, h⟩ := bnd h
   have L72 := l_bw9 h72; (try dsimp only at L72); (first | replace L72 := And.intro L72.1.symm L72.2.symm | replace L72 := L72.symm); refine c_callg (c := c_bw9) (x67.diff, (IntKind.i64.wrap (x61.1 + 1))) H_bw9 h72 fun ch => ?_
   try (refine gx ?_; intros; rename_i h)
   refine c_shg (f := (eEntry true)) (⟨x67.up, x67.note, x71.2⟩ : Entry) (idx_get h68).2 ?_
   exact cls
 rintro t o pq
 refine pnq pq ?_
 exact cls
end Go.Proofs.AM
