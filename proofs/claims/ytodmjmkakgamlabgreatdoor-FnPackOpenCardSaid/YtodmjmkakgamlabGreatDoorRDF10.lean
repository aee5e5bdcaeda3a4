/- Lemmas of the proof (RDF10), on an abstract machine. Conditions: none. -/
import Derived.Test.YtodmjmkakgamlabGreatDoorRDD
set_option linter.unusedVariables false
set_option maxRecDepth 100000
set_option maxHeartbeats 4000000
namespace Go.Proofs.AM
attribute [local irreducible] vwp vstps vstpLs vstp vdo vret kseq kblk kloop kend kcut kloop2 frzV renV shutK pfzV trnV unrV
theorem d_bo9 : OkC [c_cm9, c_al9, c_cq9, c_ao9, c_an9, c_ak9, c_am9] c_bo9 if_bo9 ks_bo9 := by
 refine ok fun G H ⟨a0, g0, g1⟩ r h => ?_
 refine st1 fun bs t o => ?_
 dsimp only [gf_bo9] at h
 refine gx fun x1 h2 x7 h8 => ?_; intros; rename_i h
 obtain ⟨q14, hq, h⟩ := bnd h
 refine w_cutK [3, 4, 5, 6] [1000640, 1000641, 40] (fun K J t o => ∃ b24 c25 b27 c28 b29, PP ((7, .ptr 56 b29 210 0 0) :: (8, .v (.bool q14.1)) :: K) ((1000896, ent b24 c25 115 (List.map (eCommit false) q14.2.1)) :: (1000897, ent b27 c28 130 (List.map eHead q14.2.2)) :: (56, ⟨b29, 1, 210, true, [[.al 1000896 b24 c25 0 q14.2.1.length 115, .al 1000897 b27 c28 0 q14.2.2.length 130]]⟩) :: J) t o) ?_ ?_
 ·have h := hq
  exact cls
 rintro t o ⟨b24, c25, b27, c28, b29, pq⟩
 refine pn pq ?_
 exact cls
end Go.Proofs.AM
