/- Lemmas of the proof (QBF5), on an abstract machine. Conditions: none. -/
import Derived.Test.YtodmjmkakgamlaaGreatQBD
set_option linter.unusedVariables false
set_option linter.unusedSimpArgs false
set_option maxRecDepth 100000
set_option maxHeartbeats 4000000
namespace Go.Proofs.AM
attribute [local irreducible] vwp vstps vstpLs vstp vdo vret kseq kblk kloop kend kcut kloop2 frzV renV shutK pfzV trnV unrV
theorem d_ca9 : OkC [c_cf9] c_ca9 if_ca9 ks_ca9 := by
 refine ok fun G H ⟨a0, a1⟩ r h => ?_
 refine st1 fun bs t o => ?_
 dsimp only [gf_ca9] at h
 try (refine gx ?_; intros; rename_i h)
 obtain ⟨q22, hq, h⟩ := bnd h
 refine w_lastK [] [] (fun K J t o => PP ((1, .v (.int .i64 q22.1)) :: K) ((0, ent (bs 0).1 (bs 0).2 130 (List.map eHead q22.2)) :: J) t o) ?_ ?_
 ·refine w_lpF [] [] (fun K J n26 t o => ∃ v23 v24 v25, gl_ca9_1 n26 v23 v24 v25 = some q22 ∧ PP ((0, .ref 0 (bs 0).1 (bs 0).2 0 v25.length 130) :: (1, .v (.int .i64 v23)) :: (5, .v (.int .i64 v24)) :: K) ((0, ent (bs 0).1 (bs 0).2 130 (List.map eHead v25)) :: J) t o) ?_ ?_
  ·exact ⟨_, _, _, hq, pin, pinh⟩
  rintro n26 t o ⟨v23, v24, v25, h, pq⟩
  refine pn pq ?_
  cases n26 with
  | zero => rw [gl_ca9_1] at h; cases h
  | succ n26 =>
   rw [gl_ca9_1] at h
   refine gx fun x27 h28 x29 h30 => ?_; intros; rename_i h
   refine c_ste (f := eHead) v25 (⟨x27, x29.at_⟩ : Head) (idx_get h30).2 ?_
   refine gx fun x31 h32 => ?_; intros; rename_i h
   refine c_ste (f := eHead) (List.set v25 v24.toNat (⟨x27, x29.at_⟩ : Head)) (⟨x31.name, (IntKind.i64.wrap (v23 + 1))⟩ : Head) (idx_get h32).2 ?_
   exact cls
 rintro t o pq
 refine pnq pq ?_
 exact cls
theorem d_bu9 : OkC [] c_bu9 if_bu9 ks_bu9 := by
 refine ok fun G H ⟨a0, a1⟩ r h => ?_
 refine st1 fun bs t o => ?_
 dsimp only [gf_bu9] at h
 try (refine gx ?_; intros; rename_i h)
 obtain ⟨hf, h⟩ := gd h
 obtain ⟨q9, hq, h⟩ := bnd h
 refine w_lastK [] [] (fun K J t o => ∃ q9_, q9 = .inr q9_ ∧ PP ((1, .v (.int .i64 q9_)) :: K) J t o) ?_ ?_
 ·have ho1 := h
  refine w_lpL (xs := a0) [0] [] 0 hf (fun K J l14 k12 t o => ∃ v10, gl_bu9_1 l14 k12 v10 = some q9 ∧ PP ((1, .v (.int .i64 v10)) :: (5, .v (.int .i64 (k12 : Int))) :: K) J t o) ?_ ?_ ?_
  ·exact ⟨_, hq, pin, pinh⟩
  ·rintro k12 t o hlt ⟨v10, h, pq⟩
   refine pn pq ?_
   rw [gl_bu9_1] at h
   exact cls
  rintro x13 l14 k12 t o hlt hx18 hw hd ⟨v10, h, pq⟩
  refine pn pq ?_
  rw [gl_bu9_1] at h
  exact cls
 rintro t o ⟨q9, rfl, pq⟩
 refine pnq pq ?_
 exact cls
theorem d_bv9 : OkC [c_cf9] c_bv9 if_bv9 ks_bv9 := by
 refine ok fun G H ⟨a0, a1⟩ r h => ?_
 refine st1 fun bs t o => ?_
 dsimp only [gf_bv9] at h
 try (refine gx ?_; intros; rename_i h)
 obtain ⟨hf, h⟩ := gd h
 obtain ⟨q21, hq, h⟩ := bnd h
 refine w_lastK [] [] (fun K J t o => ∃ q21_, q21 = .inr q21_ ∧ PP ((1, .v (.int .i64 q21_)) :: K) J t o) ?_ ?_
 ·have ho1 := h
  refine w_lpL (xs := a0) [0] [] 0 hf (fun K J l26 k24 t o => ∃ v22, gl_bv9_1 l26 k24 v22 = some q21 ∧ PP ((1, .v (.int .i64 v22)) :: (5, .v (.int .i64 (k24 : Int))) :: K) J t o) ?_ ?_ ?_
  ·exact ⟨_, hq, pin, pinh⟩
  ·rintro k24 t o hlt ⟨v22, h, pq⟩
   refine pn pq ?_
   rw [gl_bv9_1] at h
   exact cls
  rintro x25 l26 k24 t o hlt hx30 hw hd ⟨v22, h, pq⟩
  refine pn pq ?_
  rw [gl_bv9_1] at h
  exact cls
 rintro t o ⟨q21, rfl, pq⟩
 refine pnq pq ?_
 exact cls
theorem d_bt9 : OkC [] c_bt9 if_bt9 ks_bt9 := by
 refine ok fun G H ⟨a0, a1⟩ r h => ?_
 refine st1 fun bs t o => ?_
 dsimp only [gf_bt9] at h
 try (refine gx ?_; intros; rename_i h)
 obtain ⟨hf, h⟩ := gd h
 obtain ⟨q11, hq, h⟩ := bnd h
 refine w_lastK [] [] (fun K J t o => ∃ q11_, q11 = .inr q11_ ∧ PP ((1, .v (.int .i64 q11_)) :: K) J t o) ?_ ?_
 ·have ho1 := h
  refine w_lpL (xs := a0) [0] [] 0 hf (fun K J l16 k14 t o => ∃ v12, gl_bt9_1 l16 k14 v12 = some q11 ∧ PP ((1, .v (.int .i64 v12)) :: (5, .v (.int .i64 (k14 : Int))) :: K) J t o) ?_ ?_ ?_
  ·exact ⟨_, hq, pin, pinh⟩
  ·rintro k14 t o hlt ⟨v12, h, pq⟩
   refine pn pq ?_
   rw [gl_bt9_1] at h
   exact cls
  rintro x15 l16 k14 t o hlt hx20 hw hd ⟨v12, h, pq⟩
  refine pn pq ?_
  rw [gl_bt9_1] at h
  exact cls
 rintro t o ⟨q11, rfl, pq⟩
 refine pnq pq ?_
 exact cls
theorem d_co9 : OkC [c_ch9, c_cl9] c_co9 if_co9 ks_co9 := by
 refine ok fun G H ⟨a0, a1⟩ r h => ?_
 refine st1 fun bs t o => ?_
 dsimp only [gf_co9] at h
 exact cls
theorem d_db9 : OkC [c_ct9, c_cx9] c_db9 if_db9 ks_db9 := by
 refine ok fun G H a0 r h => ?_
 refine st1 fun bs t o => ?_
 dsimp only [gf_db9] at h
 exact cls
theorem d_bn9 : OkC [c_bd9, c_bj9] c_bn9 if_bn9 ks_bn9 := by
 refine ok fun G H ⟨a0, a1⟩ r h => ?_
 refine st1 fun bs t o => ?_
 dsimp only [gf_bn9] at h
 exact cls
theorem d_cd9 : OkC [c_bx9, c_ca9] c_cd9 if_cd9 ks_cd9 := by
 refine ok fun G H ⟨a0, a1⟩ r h => ?_
 have H_bx9 := H _ (.head _)
 have H_ca9 := H _ (.tail _ (.head _))
 replace H := hpre 0 H
 refine st1 fun bs t o => ?_
 dsimp only [gf_cd9] at h
 try (refine gx ?_; intros; rename_i h)
 obtain ⟨x2, h3, h⟩ := bnd h
 have L3 := l_bx9 h3; (try dsimp only at L3); (first | replace L3 := And.intro L3.1.symm L3.2.symm | replace L3 := L3.symm); refine c_callg (c := c_bx9) (a0.commits, a1) H_bx9 h3 fun ch => ?_
 try (refine gx ?_; intros; rename_i h)
 obtain ⟨x4, h5, h⟩ := bnd h
 have L5 := l_ca9 h5; (try dsimp only at L5); (first | replace L5 := And.intro L5.1.symm L5.2.symm | replace L5 := L5.symm); refine c_callg (c := c_ca9) (a0.heads, x2.1) H_ca9 h5 fun ch => ?_
 exact cls
theorem d_ba9 : OkC [c_bg9] c_ba9 if_ba9 ks_ba9 := by
 refine ok fun G H ⟨a0, a1⟩ r h => ?_
 refine st1 fun bs t o => ?_
 dsimp only [gf_ba9] at h
 exact cls
theorem d_bb9 : OkC [c_ba9] c_bb9 if_bb9 ks_bb9 := by
 refine ok fun G H ⟨a0, a1⟩ r h => ?_
 refine st1 fun bs t o => ?_
 dsimp only [gf_bb9] at h
 try (refine gx ?_; intros; rename_i h)
 obtain ⟨hf, h⟩ := gd h
 obtain ⟨q20, hq, h⟩ := bnd h
 refine w_lastK [] [] (fun K J t o => ∃ q20_, q20 = .inr q20_ ∧ PP K J t o) ?_ ?_
 ·have ho1 := h
  refine w_lpL (xs := a0) [0, 1] [] 0 hf (fun K J l24 k22 t o => gl_bb9_1 a1 l24 k22  = some q20 ∧ PP ((5, .v (.int .i64 (k22 : Int))) :: K) J t o) ?_ ?_ ?_
  ·exact ⟨hq, pin, pinh⟩
  ·rintro k22 t o hlt ⟨h, pq⟩
   refine pn pq ?_
   rw [gl_bb9_1] at h
   exact cls
  rintro x23 l24 k22 t o hlt hx28 hw hd ⟨h, pq⟩
  refine pn pq ?_
  rw [gl_bb9_1] at h
  exact cls
 rintro t o ⟨q20, rfl, pq⟩
 refine pnq pq ?_
 exact cls
theorem d_be9 : OkC [c_bk9, c_bb9] c_be9 if_be9 ks_be9 := by
 refine ok fun G H ⟨a0, a1⟩ r h => ?_
 refine st1 fun bs t o => ?_
 dsimp only [gf_be9] at h
 exact cls
theorem d_bf9 : OkC [c_be9] c_bf9 if_bf9 ks_bf9 := by
 refine ok fun G H ⟨a0, a1⟩ r h => ?_
 refine st1 fun bs t o => ?_
 dsimp only [gf_bf9] at h
 try (refine gx ?_; intros; rename_i h)
 obtain ⟨hf, h⟩ := gd h
 obtain ⟨q20, hq, h⟩ := bnd h
 refine w_lastK [] [] (fun K J t o => ∃ q20_, q20 = .inr q20_ ∧ PP K J t o) ?_ ?_
 ·have ho1 := h
  refine w_lpL (xs := a0) [0, 1] [] 0 hf (fun K J l24 k22 t o => gl_bf9_1 a1 l24 k22  = some q20 ∧ PP ((5, .v (.int .i64 (k22 : Int))) :: K) J t o) ?_ ?_ ?_
  ·exact ⟨hq, pin, pinh⟩
  ·rintro k22 t o hlt ⟨h, pq⟩
   refine pn pq ?_
   rw [gl_bf9_1] at h
   exact cls
  rintro x23 l24 k22 t o hlt hx28 hw hd ⟨h, pq⟩
  refine pn pq ?_
  rw [gl_bf9_1] at h
  exact cls
 rintro t o ⟨q20, rfl, pq⟩
 refine pnq pq ?_
 exact cls
theorem d_aa9 : OkC [c_ad9] c_aa9 if_aa9 ks_aa9 := by
 refine ok fun G H a0 r h => ?_
 refine st1 fun bs t o => ?_
 dsimp only [gf_aa9] at h
 exact cls
theorem d_ew9 : OkC [] c_ew9 if_ew9 ks_ew9 := by
 refine ok fun G H ⟨a0, a1⟩ r h => ?_
 refine st1 fun bs t o => ?_
 dsimp only [gf_ew9] at h
 exact cls
theorem d_eo9 : OkC [c_en9, c_ep9, c_dv9] c_eo9 if_eo9 ks_eo9 := by
 refine ok fun G H ⟨a0, a1⟩ r h => ?_
 have H_en9 := H _ (.head _)
 have H_ep9 := H _ (.tail _ (.head _))
 have H_dv9 := H _ (.tail _ (.tail _ (.head _)))
 refine st1 fun bs t o => ?_
 dsimp only [gf_eo9] at h
 obtain ⟨x2, h3, h⟩ := bnd h
 refine go ?_;intros
 refine c_call (c := c_en9) (a0, a1) H_en9 h3 fun ch => ?_
 obtain ⟨hf109, h⟩ := gd h
 obtain ⟨q94, h137, h⟩ := bnd h
 refine go ?_;intros
 refine w_last (fun t o => ∃ b135 c136, Pin t (ovr [(5, .ref 96 b135 c136 0 q94.length 155)] t) ∧ PinH o (ovh [(96, ent b135 c136 155 (List.map (eChange true) q94))] o)) ?_ ?_
 ·refine w_loop2 (fun n t o => ∃ l103 k101 v96 b97 c98 b99 c100, gl_eo9_1 a0 a1 l103 k101 v96 = some q94 ∧ n = l103.length ∧ (x2).drop k101 = l103 ∧ Pin t (ovr [(0, .ro (List.map (eFeat false) a0)), (1, .ro (List.map (eFeat false) a1)), (5, .ref 96 b97 c98 0 v96.length 155), (6, .ref 120 b99 c100 0 x2.length 49), (7, .v (.int .i64 (k101 : Int)))] t) ∧ PinH o (ovh [(96, ent b97 c98 155 (List.map (eChange true) v96)), (120, ent b99 c100 49 (List.map eStr x2))] o)) _ ⟨_, _, _, _, _, _, _, h137, rfl, rfl, pin, pinh⟩ ?_
  rintro n t o ⟨l103, k101, v96, b97, c98, b99, c100, h137, rfl, hd104, pq1, pq2⟩
  refine pinned pq1 pq2 ?_
  cases l103 with
  | nil =>
   have hge106 := drop_ge hd104
   rw [gl_eo9_1] at h137
   refine go ?_;intros
   rw [hge106]
   refine go ?_;intros
   cases h137
   exact k_cn ⟨_, _, pin, pinh⟩
  | cons x102 l103 =>
   have hlt105 := drop_lt hd104
   have hx107 := drop_ix hd104
   have hw108 := drop_wr hd104 hf109
   rw [gl_eo9_1] at h137
   refine go ?_;intros
   rw [hlt105]
   refine go ?_;intros
   refine r_ire (xs := x2) rfl rfl hx107 rfl ?_
   refine go ?_;intros
   refine r_lde (f := eStr) (xs := x2) (x := x102) rfl rfl (idx_get hx107).2 rfl rfl rfl ?_
   obtain ⟨x110, h111, h137⟩ := bnd h137
   refine go ?_;intros
   refine c_call (c := c_ep9) (a0, x102) H_ep9 h111 fun ch => ?_
   refine go ?_;intros
   refine r_ire (xs := x2) rfl rfl hx107 rfl ?_
   refine go ?_;intros
   refine r_lde (f := eStr) (xs := x2) (x := x102) rfl rfl (idx_get hx107).2 rfl rfl rfl ?_
   obtain ⟨x117, h118, h137⟩ := bnd h137
   refine go ?_;intros
   refine c_call (c := c_ep9) (a1, x102) H_ep9 h118 fun ch => ?_
   refine go ?_;intros
   refine s_split rfl (fun c => ?_) (fun c => ?_)
   ·replace h137 := itt h137 c
    rw [c]
    refine go ?_;intros
    refine r_ire (xs := x2) rfl rfl hx107 rfl ?_
    refine go ?_;intros
    refine r_lde (f := eStr) (xs := x2) (x := x102) rfl rfl (idx_get hx107).2 rfl rfl rfl ?_
    refine go ?_;intros
    try simp only [take_map_len, take_ent]
    obtain ⟨h129, h137⟩ := gd h137
    refine go ?_;intros
    refine r_app (f := (eChange true)) (xs := v96) (ys := ([(⟨x102, x110.2, x110.1, x117.2, x117.1⟩ : Change)] : (List Change))) rfl (src_mv rfl rfl (by first | rfl | simp)) rfl rfl (by first | rfl | simp) h129 fun b127 c128 => ?_
    refine go ?_;intros
    rw [hw108]
    exact k_ln2 _ (Nat.lt_succ_self _) ⟨_, _, _, _, _, _, _, h137, rfl, drop_next hd104, pin, pinh⟩
   replace h137 := itf h137 c
   rw [c]
   obtain ⟨x124, h125, h137⟩ := bnd h137
   refine go ?_;intros
   refine c_call (c := c_dv9) (x110.1, x117.1) H_dv9 h125 fun ch => ?_
   refine go ?_;intros
   refine w_cond rfl (fun c => ?_) (fun c => ?_)
   ·replace h137 := itt h137 c
    try rw [c]
    refine go ?_;intros
    refine r_ire (xs := x2) rfl rfl hx107 rfl ?_
    refine go ?_;intros
    refine r_lde (f := eStr) (xs := x2) (x := x102) rfl rfl (idx_get hx107).2 rfl rfl rfl ?_
    refine go ?_;intros
    try simp only [take_map_len, take_ent]
    obtain ⟨h133, h137⟩ := gd h137
    refine go ?_;intros
    refine r_app (f := (eChange true)) (xs := v96) (ys := ([(⟨x102, x110.2, x110.1, x117.2, x117.1⟩ : Change)] : (List Change))) rfl (src_mv rfl rfl (by first | rfl | simp)) rfl rfl (by first | rfl | simp) h133 fun b131 c132 => ?_
    refine go ?_;intros
    rw [hw108]
    exact k_ln2 _ (Nat.lt_succ_self _) ⟨_, _, _, _, _, _, _, h137, rfl, drop_next hd104, pin, pinh⟩
   replace h137 := itf h137 c
   try rw [c]
   refine go ?_;intros
   rw [hw108]
   exact k_ln2 _ (Nat.lt_succ_self _) ⟨_, _, _, _, _, _, _, h137, rfl, drop_next hd104, pin, pinh⟩
 rintro t o ⟨b135, c136, pq1, pq2⟩
 refine pinnedQ pq1 pq2 ?_
 refine go ?_;intros
 cases h
 exact r_end
theorem d_em9 : OkC [c_eh9] c_em9 if_em9 ks_em9 := by
 refine ok fun G H a0 r h => ?_
 refine st1 fun bs t o => ?_
 dsimp only [gf_em9] at h
 exact cls
theorem d_ev9 : OkC [c_em9] c_ev9 if_ev9 ks_ev9 := by
 refine ok fun G H a0 r h => ?_
 refine st1 fun bs t o => ?_
 dsimp only [gf_ev9] at h
 try (refine gx ?_; intros; rename_i h)
 obtain ⟨hf, h⟩ := gd h
 obtain ⟨q54, hq, h⟩ := bnd h
 refine w_lastK [] [] (fun K J t o => ∃ b83 c84, PP ((3, .ref 40 b83 c84 0 q54.length 155) :: K) ((40, ent b83 c84 155 (List.map (eChange true) q54)) :: J) t o) ?_ ?_
 ·refine w_lpL (xs := a0) [0] [] 0 hf (fun K J l61 k59 t o => ∃ v56 b57 c58, gl_ev9_1 l61 k59 v56 = some q54 ∧ PP ((3, .ref 40 b57 c58 0 v56.length 155) :: (4, .v (.int .i64 (k59 : Int))) :: K) ((40, ent b57 c58 155 (List.map (eChange true) v56)) :: J) t o) ?_ ?_ ?_
  ·exact ⟨_, _, _, hq, pin, pinh⟩
  ·rintro k59 t o hlt ⟨v56, b57, c58, h, pq⟩
   refine pn pq ?_
   rw [gl_ev9_1] at h
   exact cls
  rintro x60 l61 k59 t o hlt hx65 hw hd ⟨v56, b57, c58, h, pq⟩
  refine pn pq ?_
  rw [gl_ev9_1] at h
  exact cls
 rintro t o ⟨b83, c84, pq⟩
 refine pnq pq ?_
 exact cls
end Go.Proofs.AM
