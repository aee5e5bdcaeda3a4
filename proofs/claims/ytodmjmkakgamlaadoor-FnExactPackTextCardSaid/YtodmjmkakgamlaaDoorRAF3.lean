/- Lemmas of the proof (RAF3), on an abstract machine. Conditions: none. -/
import Derived.Test.YtodmjmkakgamlaaDoorRAD
set_option linter.unusedVariables false
set_option maxRecDepth 100000
set_option maxHeartbeats 4000000
namespace Go.Proofs.AM
attribute [local irreducible] vwp vstps vstpLs vstp vdo vret kseq kblk kloop kend kcut kloop2 frzV renV shutK pfzV trnV unrV
theorem d_ad9 : OkC [c_ag9] c_ad9 if_ad9 ks_ad9 := by
 refine ok fun G H ⟨a0, a1⟩ r h => ?_
 refine st1 fun bs t o => ?_
 dsimp only [gf_ad9] at h
 exact cls
theorem d_ac9 : OkC [c_ab9, c_ad9] c_ac9 if_ac9 ks_ac9 := by
 refine ok fun G H a0 r h => ?_
 have H_ad9 := H _ (.tail _ (.head _))
 replace H := hpre 1 H
 refine st1 fun bs t o => ?_
 dsimp only [gf_ac9] at h
 refine gx fun x1 h2 => ?_; intros; rename_i h
 obtain ⟨hf, h⟩ := gd h
 obtain ⟨q62, hq, h⟩ := bnd h
 refine w_lastK [] [] (fun K J t o => PP ((4, .v (.string q62)) :: K) J t o) ?_ ?_
 ·refine w_lpL (xs := a0) [3, 10, 11] [] 0 hf (fun K J l67 k65 t o => ∃ v63, gl_ad9 l67 k65 v63 = some q62 ∧ PP ((4, .v (.string v63)) :: (12, .v (.int .i64 (k65 : Int))) :: K) J t o) ?_ ?_ ?_
  ·exact ⟨_, hq, pin, pinh⟩
  ·rintro k65 t o hlt ⟨v63, h, pq⟩
   refine pn pq ?_
   rw [gl_ad9] at h
   exact cls
  rintro x66 l67 k65 t o hlt hx71 hw hd ⟨v63, h, pq⟩
  refine pn pq ?_
  rw [gl_ad9] at h
  refine gx fun x75 h76 => ?_; intros; rename_i h
  obtain ⟨x77, h78, h⟩ := bnd h
  refine c_calld (c := c_ad9) (x66.had, x66.was) H_ad9 h78 fun ch => ?_
  refine gx fun x79 h80 x81 h82 => ?_; intros; rename_i h
  obtain ⟨x83, h84, h⟩ := bnd h
  refine c_calld (c := c_ad9) (x66.has, x66.now) H_ad9 h84 fun ch => ?_
  exact cls
 rintro t o pq
 refine pnq pq ?_
 exact cls
theorem d_ah9 : OkC [c_cs9, c_ac9] c_ah9 if_ah9 ks_ah9 := by
 refine ok fun G H a0 r h => ?_
 refine st1 fun bs t o => ?_
 dsimp only [gf_ah9] at h
 try (refine gx ?_; intros; rename_i h)
 obtain ⟨hf, h⟩ := gd h
 obtain ⟨q189, hq, h⟩ := bnd h
 refine w_lastK [] [] (fun K J t o => PP ((3, .v (.string q189)) :: K) J t o) ?_ ?_
 ·refine w_lpL (xs := a0) [8, 9] [] 0 hf (fun K J l194 k192 t o => ∃ v190, gl_ah9_4 l194 k192 v190 = some q189 ∧ PP ((3, .v (.string v190)) :: (10, .v (.int .i64 (k192 : Int))) :: K) J t o) ?_ ?_ ?_
  ·exact ⟨_, hq, pin, pinh⟩
  ·rintro k192 t o hlt ⟨v190, h, pq⟩
   refine pn pq ?_
   rw [gl_ah9_4] at h
   exact cls
  rintro x193 l194 k192 t o hlt hx198 hw hd ⟨v190, h, pq⟩
  refine pn pq ?_
  rw [gl_ah9_4] at h
  refine gx fun x202 h203 x204 h205 => ?_; intros; rename_i h
  obtain ⟨hf, h⟩ := gd h
  obtain ⟨q232, hq, h⟩ := bnd h
  refine w_lastK [5, 8, 9, 10] [40] (fun K J t o => PP ((3, .v (.string q232)) :: K) J t o) ?_ ?_
  ·refine w_lpL (xs := x193.up) [5, 8, 9, 10, 20, 21] [40] 0 hf (fun K J l237 k235 t o => ∃ v233, gl_ah9_5 l237 k235 v233 = some q232 ∧ PP ((3, .v (.string v233)) :: (22, .v (.int .i64 (k235 : Int))) :: K) J t o) ?_ ?_ ?_
   ·exact ⟨_, hq, pin, pinh⟩
   ·rintro k235 t o hlt ⟨v233, h, pq⟩
    refine pn pq ?_
    rw [gl_ah9_5] at h
    exact cls
   rintro x236 l237 k235 t o hlt hx241 hw hd ⟨v233, h, pq⟩
   refine pn pq ?_
   rw [gl_ah9_5] at h
   exact cls
  rintro t o pq
  refine pnq pq ?_
  exact cls
 rintro t o pq
 refine pnq pq ?_
 exact cls
theorem d_aq9 : OkC [c_bf9, c_bp9, c_ce9, c_ah9, c_au9] c_aq9 if_aq9 ks_aq9 := by
 refine ok fun G H a0 r h => ?_
 refine st1 fun bs t o => ?_
 dsimp only [gf_aq9] at h
 exact cls
end Go.Proofs.AM
