/- Lemmas of the proof (QCF7), on an abstract machine. Conditions: none. -/
import Derived.Test.YtodmjmkakgamlaaGreatQCD
set_option linter.unusedVariables false
set_option maxRecDepth 100000
set_option maxHeartbeats 4000000
namespace Go.Proofs.AM
attribute [local irreducible] vwp vstps vstpLs vstp vdo vret kseq kblk kloop kend kcut kloop2 frzV renV shutK pfzV trnV unrV
theorem d_cg9 : OkC [c_cn9, c_cj9, c_ce9] c_cg9 if_cg9 ks_cg9 := by
 refine ok fun G H ⟨a0, a1⟩ r h => ?_
 have H_cj9 := H _ (.tail _ (.head _))
 have H_ce9 := H _ (.tail _ (.tail _ (.head _)))
 replace H := hpre 1 H
 refine st1 fun bs t o => ?_
 dsimp only [gf_cg9] at h
 try (refine gx ?_; intros; rename_i h)
 obtain ⟨q52, hq, h⟩ := bnd h
 refine w_lastK [] [] (fun K J t o => PP ((1, .v (.int .i64 q52.1)) :: K) ((0, ent (bs 0).1 (bs 0).2 163 (List.map (eEntry true) q52.2)) :: J) t o) ?_ ?_
 ·refine w_lpF [] [] (fun K J n56 t o => ∃ v53 v54 v55, gl_cg9_1 n56 v53 v54 v55 = some q52 ∧ PP ((0, .ref 0 (bs 0).1 (bs 0).2 0 v55.length 163) :: (1, .v (.int .i64 v53)) :: (5, .v (.int .i64 v54)) :: K) ((0, ent (bs 0).1 (bs 0).2 163 (List.map (eEntry true) v55)) :: J) t o) ?_ ?_
  ·exact ⟨_, _, _, hq, pin, pinh⟩
  rintro n56 t o ⟨v53, v54, v55, h, pq⟩
  refine pn pq ?_
  cases n56 with
  | zero => rw [gl_cg9_1] at h; cases h
  | succ n56 =>
   rw [gl_cg9_1] at h
   refine gx fun x57 h58 => ?_; intros; rename_i h
   refine r_lopg (f := (eEntry true)) (g := eInt) (xs := v55) (x := x57) (ys := x57.up) (idx_get h58).2 rfl rfl rfl fun b59 c60 => ?_
   try (refine gx ?_; intros; rename_i h)
   obtain ⟨x61, h62, h⟩ := bnd h
   have L62 := l_cj9 h62; (try dsimp only at L62); (first | replace L62 := And.intro L62.1.symm L62.2.symm | replace L62 := L62.symm); (try obtain ⟨L62, M62⟩ := L62); refine c_callg (c := c_cj9) (x57.up, v53) H_cj9 h62 fun ch => ?_
   try (refine gx ?_; intros; rename_i h)
   refine c_shg (f := (eEntry true)) (⟨x61.2, x57.note, x57.diff⟩ : Entry) (idx_get h58).2 ?_
   refine gx fun x63 h64 x65 h66 => ?_; intros; rename_i h
   refine c_ste (f := (eEntry true)) (List.set v55 v54.toNat (⟨x61.2, x57.note, x57.diff⟩ : Entry)) (⟨x65.up, x63, x65.diff⟩ : Entry) (idx_get h66).2 ?_
   refine gx fun x67 h68 => ?_; intros; rename_i h
   refine r_lopg (f := (eEntry true)) (g := (eChange true)) (xs := (List.set (List.set v55 v54.toNat (⟨x61.2, x57.note, x57.diff⟩ : Entry)) v54.toNat (⟨x65.up, x63, x65.diff⟩ : Entry))) (x := x67) (ys := x67.diff) (idx_get h68).2 rfl rfl rfl fun b69 c70 => ?_
   try (refine gx ?_; intros; rename_i h)
   obtain ⟨x71, h72, h⟩ := bnd h
   have L72 := l_ce9 h72; (try dsimp only at L72); (first | replace L72 := And.intro L72.1.symm L72.2.symm | replace L72 := L72.symm); (try obtain ⟨L72, M72⟩ := L72); refine c_callg (c := c_ce9) (x67.diff, (IntKind.i64.wrap (x61.1 + 1))) H_ce9 h72 fun ch => ?_
   try (refine gx ?_; intros; rename_i h)
   refine c_shg (f := (eEntry true)) (⟨x67.up, x67.note, x71.2⟩ : Entry) (idx_get h68).2 ?_
   exact cls
 rintro t o pq
 refine pnq pq ?_
 exact cls
theorem d_bf9 : OkC [c_cr9, c_cu9, c_dd9, c_dg9, c_eh9, c_ag9, c_bt9, c_bl9, c_bp9, c_cc9, c_cg9, c_ci9, c_cl9] c_bf9 if_bf9 ks_bf9 := by
 refine ok fun G H ⟨a0, a1⟩ r h => ?_
 have H_cg9 := H _ (.tail _ (.tail _ (.tail _ (.tail _ (.tail _ (.tail _ (.tail _ (.tail _ (.tail _ (.tail _ (.head _)))))))))))
 have H_ci9 := H _ (.tail _ (.tail _ (.tail _ (.tail _ (.tail _ (.tail _ (.tail _ (.tail _ (.tail _ (.tail _ (.tail _ (.head _))))))))))))
 have H_cl9 := H _ (.tail _ (.tail _ (.tail _ (.tail _ (.tail _ (.tail _ (.tail _ (.tail _ (.tail _ (.tail _ (.tail _ (.tail _ (.head _)))))))))))))
 replace H := hpre 10 H
 refine st1 fun bs t o => ?_
 dsimp only [gf_bf9] at h
 refine gx fun x1 h2 x3 h4 => ?_; intros; rename_i h
 obtain ⟨q5, hq, h⟩ := bnd h
 refine w_cutK [0, 1] [] (fun K J t o => ∃ b24, PP ((6, .ptr 48 b24 210 0 0) :: (7, .v (.bool q5.1)) :: K) ((48, ⟨b24, 1, 210, true, [[.sl false 3 (List.map (eCommit false) q5.2.1), .sl false 2 (List.map eHead q5.2.2)]]⟩) :: J) t o) ?_ ?_
 ·have h := hq
  exact cls
 rintro t o ⟨b24, pq⟩
 refine pn pq ?_
 refine gx fun x25 h26 x29 h30 x33 h34 x40 h41 x42 h43 x46 h47 x48 h49 x52 h53 => ?_; intros; rename_i h
 obtain ⟨q54, hq, h⟩ := bnd h
 refine w_cutK [0, 1, 6, 7, 8, 9, 10, 11] [48, 288, 304, 1001280, 1001281, 80] (fun K J t o => PP ((12, .v (.int .i64 1)) :: K) J t o) ?_ ?_
 ·have h := hq
  exact cls
 rintro t o pq
 refine pn pq ?_
 try (refine gx ?_; intros; rename_i h)
 obtain ⟨x55, h56, h⟩ := bnd h
 have L56 := l_cg9 h56; (try dsimp only at L56); (first | replace L56 := And.intro L56.1.symm L56.2.symm | replace L56 := L56.symm); (try obtain ⟨L56, M56⟩ := L56); refine c_callg (c := c_cg9) (x25, 1) H_cg9 h56 fun ch => ?_
 try (refine gx ?_; intros; rename_i h)
 obtain ⟨x57, h58, h⟩ := bnd h
 have L58 := l_ci9 h58; (try dsimp only at L58); (first | replace L58 := And.intro L58.1.symm L58.2.symm | replace L58 := L58.symm); (try obtain ⟨L58, M58⟩ := L58); refine c_callg (c := c_ci9) (x29, x55.1) H_ci9 h58 fun ch => ?_
 refine gx fun x59 h60 => ?_; intros; rename_i h
 obtain ⟨x61, h62, h⟩ := bnd h
 have L62 := l_cl9 h62; (try dsimp only at L62); (first | replace L62 := And.intro L62.1.symm L62.2.symm | replace L62 := L62.symm); (try obtain ⟨L62, M62⟩ := L62); refine c_callg (c := c_cl9) (x33.1, 1) H_cl9 h62 fun ch => ?_
 exact cls
end Go.Proofs.AM
