/- Lemmas of the proof (RAF2), on an abstract machine. Conditions: none. -/
import Derived.Test.YtodmjmkakgamlaaDoorRAD
set_option linter.unusedVariables false
set_option maxRecDepth 100000
set_option maxHeartbeats 4000000
namespace Go.Proofs.AM
attribute [local irreducible] vwp vstps vstpLs vstp vdo vret kseq kblk kloop kend kcut kloop2 frzV renV shutK pfzV trnV unrV
theorem d_ar9 : OkC [c_av9] c_ar9 if_ar9 ks_ar9 := by
 refine ok fun G H ⟨a0, a1⟩ r h => ?_
 refine st1 fun bs t o => ?_
 dsimp only [gf_ar9] at h
 exact cls
theorem d_as9 : OkC [c_ar9] c_as9 if_as9 ks_as9 := by
 refine ok fun G H ⟨a0, a1⟩ r h => ?_
 refine st1 fun bs t o => ?_
 dsimp only [gf_as9] at h
 try (refine gx ?_; intros; rename_i h)
 obtain ⟨hf, h⟩ := gd h
 obtain ⟨q20, hq, h⟩ := bnd h
 refine w_lastK [] [] (fun K J t o => ∃ q20_, q20 = .inr q20_ ∧ PP K J t o) ?_ ?_
 ·have ho1 := h
  refine w_lpL (xs := a0) [0, 1] [] 0 hf (fun K J l24 k22 t o => gl_as9_1 a1 l24 k22  = some q20 ∧ PP ((5, .v (.int .i64 (k22 : Int))) :: K) J t o) ?_ ?_ ?_
  ·exact ⟨hq, pin, pinh⟩
  ·rintro k22 t o hlt ⟨h, pq⟩
   refine pn pq ?_
   rw [gl_as9_1] at h
   exact cls
  rintro x23 l24 k22 t o hlt hx28 hw hd ⟨h, pq⟩
  refine pn pq ?_
  rw [gl_as9_1] at h
  exact cls
 rintro t o ⟨q20, rfl, pq⟩
 refine pnq pq ?_
 exact cls
theorem d_at9 : OkC [c_aw9, c_as9] c_at9 if_at9 ks_at9 := by
 refine ok fun G H ⟨a0, a1⟩ r h => ?_
 refine st1 fun bs t o => ?_
 dsimp only [gf_at9] at h
 exact cls
theorem d_au9 : OkC [c_at9] c_au9 if_au9 ks_au9 := by
 refine ok fun G H ⟨a0, a1⟩ r h => ?_
 refine st1 fun bs t o => ?_
 dsimp only [gf_au9] at h
 try (refine gx ?_; intros; rename_i h)
 obtain ⟨hf, h⟩ := gd h
 obtain ⟨q20, hq, h⟩ := bnd h
 refine w_lastK [] [] (fun K J t o => ∃ q20_, q20 = .inr q20_ ∧ PP K J t o) ?_ ?_
 ·have ho1 := h
  refine w_lpL (xs := a0) [0, 1] [] 0 hf (fun K J l24 k22 t o => gl_au9_1 a1 l24 k22  = some q20 ∧ PP ((5, .v (.int .i64 (k22 : Int))) :: K) J t o) ?_ ?_ ?_
  ·exact ⟨hq, pin, pinh⟩
  ·rintro k22 t o hlt ⟨h, pq⟩
   refine pn pq ?_
   rw [gl_au9_1] at h
   exact cls
  rintro x23 l24 k22 t o hlt hx28 hw hd ⟨h, pq⟩
  refine pn pq ?_
  rw [gl_au9_1] at h
  exact cls
 rintro t o ⟨q20, rfl, pq⟩
 refine pnq pq ?_
 exact cls
theorem d_cj9 (fuel : Nat) : OkC [(c_cj9 fuel)] (c_cj9 (fuel + 1)) if_cj9 ks_cj9 := by
 refine ok fun G H a0 r h => ?_
 refine st1 fun bs t o => ?_
 replace h : gb_cj9 (gf_cj9 fuel) a0 = some r := h
 unfold gb_cj9 at h
 try (refine gx ?_; intros; rename_i h)
 obtain ⟨q13, hq, h⟩ := bnd h
 refine w_cutK [] [] (fun K J t o => PP ((0, .v (.int .i64 q13.1)) :: (3, .v (.string q13.2)) :: K) J t o) ?_ ?_
 ·refine w_block ?_
  refine w_lpF [] [] (fun K J n16 t o => ∃ v14 v15, gl_cj9_1 n16 v14 v15 = some q13 ∧ PP ((0, .v (.int .i64 v14)) :: (3, .v (.string v15)) :: K) J t o) ?_ ?_
  ·exact ⟨_, _, hq, pin, pinh⟩
  rintro n16 t o ⟨v14, v15, h, pq⟩
  refine pn pq ?_
  cases n16 with
  | zero => rw [gl_cj9_1] at h; cases h
  | succ n16 =>
   rw [gl_cj9_1] at h
   try (refine gx ?_; intros; rename_i h)
   refine r_bytes (xs := ([(IntKind.u8.wrap (IntKind.i64.wrap (48 + (Int.tmod v14 10))))] : (List Int))) rfl rfl (by first | rfl | simp) rfl ?_
   exact cls
 rintro t o pq
 refine pn pq ?_
 try (refine gx ?_; intros; rename_i h)
 refine r_bytes (xs := ([(IntKind.u8.wrap (IntKind.i64.wrap (48 + q13.1)))] : (List Int))) rfl rfl (by first | rfl | simp) rfl ?_
 exact cls
theorem d_cq9 : OkC [c_ci9, c_cc9, c_cb9] c_cq9 if_cq9 ks_cq9 := by
 refine ok fun G H a0 r h => ?_
 refine st1 fun bs t o => ?_
 dsimp only [gf_cq9] at h
 try (refine gx ?_; intros; rename_i h)
 obtain ⟨q8, hq, h⟩ := bnd h
 refine w_cutK [] [] (fun K J t o => ∃ q8_ b17, q8 = .inr q8_ ∧ PP ((1, .ptr 8 b17 155 0 0) :: K) ((8, ⟨b17, 1, 155, true, [[.v (.string a0.id), .v (.bool q8_.1), .v (.string a0.was.id), .v (.int .i64 a0.was.shape.kind), .sl false 2 (List.map ePt a0.was.shape.pts), .sl false 2 (List.map eTag a0.was.tags), .v (.bool q8_.2), .v (.string a0.now.id), .v (.int .i64 a0.now.shape.kind), .sl false 2 (List.map ePt a0.now.shape.pts), .sl false 2 (List.map eTag a0.now.tags)]]⟩) :: J) t o) ?_ ?_
 ·have ho1 := h
  have h := hq
  exact cls
 rintro t o ⟨q8, b17, rfl, pq⟩
 refine pn pq ?_
 try (refine gx ?_; intros; rename_i h)
 obtain ⟨q24, hq, h⟩ := bnd h
 refine w_cutK [1] [8] (fun K J t o => ∃ q24_, q24 = .inr q24_ ∧ PP K J t o) ?_ ?_
 ·have ho1 := h
  have h := hq
  exact cls
 rintro t o ⟨q24, rfl, pq⟩
 refine pn pq ?_
 exact cls
theorem d_bz9 : OkC [c_cq9] c_bz9 if_bz9 ks_bz9 := by
 refine ok fun G H a0 r h => ?_
 refine st1 fun bs t o => ?_
 dsimp only [gf_bz9] at h
 try (refine gx ?_; intros; rename_i h)
 obtain ⟨hf, h⟩ := gd h
 obtain ⟨q18, hq, h⟩ := bnd h
 refine w_lastK [0] [] (fun K J t o => ∃ q18_, q18 = .inr q18_ ∧ PP K J t o) ?_ ?_
 ·have ho1 := h
  refine w_lpL (xs := a0) [0] [] 0 hf (fun K J l22 k20 t o => gl_bz9_1 a0 l22 k20  = some q18 ∧ PP ((3, .v (.int .i64 (k20 : Int))) :: K) J t o) ?_ ?_ ?_
  ·exact ⟨hq, pin, pinh⟩
  ·rintro k20 t o hlt ⟨h, pq⟩
   refine pn pq ?_
   rw [gl_bz9_1] at h
   exact cls
  rintro x21 l22 k20 t o hlt hx26 hw hd ⟨h, pq⟩
  refine pn pq ?_
  rw [gl_bz9_1] at h
  exact cls
 rintro t o ⟨q18, rfl, pq⟩
 refine pnq pq ?_
 exact cls
theorem d_cn9 : OkC [] c_cn9 if_cn9 ks_cn9 := by
 refine ok fun G H a0 r h => ?_
 refine st1 fun bs t o => ?_
 dsimp only [gf_cn9] at h
 obtain ⟨x2, h3, h⟩ := bnd h
 refine go ?_;intros
 refine r_ire (xs := ([(⟨#[]⟩ : Str), (⟨#[100, 111, 116]⟩ : Str), (⟨#[108, 105, 110, 101]⟩ : Str), (⟨#[114, 105, 110, 103]⟩ : Str)] : (List Str))) rfl rfl h3 rfl ?_
 refine go ?_;intros
 refine r_lde (f := eStr) (xs := ([(⟨#[]⟩ : Str), (⟨#[100, 111, 116]⟩ : Str), (⟨#[108, 105, 110, 101]⟩ : Str), (⟨#[114, 105, 110, 103]⟩ : Str)] : (List Str))) (x := x2) rfl rfl (idx_get h3).2 rfl rfl rfl ?_
 refine go ?_;intros
 cases h
 exact r_end
theorem d_ch9 : OkC [c_cf9, c_cn9, (c_cj9 rounds)] c_ch9 if_ch9 ks_ch9 := by
 refine ok fun G H a0 r h => ?_
 refine st1 fun bs t o => ?_
 dsimp only [gf_ch9] at h
 refine gx fun x2 h3 x4 h5 => ?_; intros; rename_i h
 obtain ⟨hf, h⟩ := gd h
 obtain ⟨q50, hq, h⟩ := bnd h
 refine w_lastK [] [] (fun K J t o => PP ((3, .v (.string q50)) :: K) J t o) ?_ ?_
 ·refine w_lpL (xs := a0.pts) [1] [8] 0 hf (fun K J l55 k53 t o => ∃ v51, gl_ch9_1 l55 k53 v51 = some q50 ∧ PP ((3, .v (.string v51)) :: (4, .v (.int .i64 (k53 : Int))) :: K) J t o) ?_ ?_ ?_
  ·exact ⟨_, hq, pin, pinh⟩
  ·rintro k53 t o hlt ⟨v51, h, pq⟩
   refine pn pq ?_
   rw [gl_ch9_1] at h
   exact cls
  rintro x54 l55 k53 t o hlt hx59 hw hd ⟨v51, h, pq⟩
  refine pn pq ?_
  rw [gl_ch9_1] at h
  exact cls
 rintro t o pq
 refine pnq pq ?_
 exact cls
theorem d_cd9 : OkC [c_cb9, c_ch9] c_cd9 if_cd9 ks_cd9 := by
 refine ok fun G H a0 r h => ?_
 refine st1 fun bs t o => ?_
 dsimp only [gf_cd9] at h
 refine gx fun x2 h3 x4 h5 x6 h7 x8 h9 => ?_; intros; rename_i h
 obtain ⟨hf, h⟩ := gd h
 obtain ⟨q42, hq, h⟩ := bnd h
 refine w_lastK [] [] (fun K J t o => PP ((3, .v (.string q42)) :: K) J t o) ?_ ?_
 ·refine w_lpL (xs := a0.tags) [1] [8] 0 hf (fun K J l47 k45 t o => ∃ v43, gl_cd9_1 l47 k45 v43 = some q42 ∧ PP ((3, .v (.string v43)) :: (4, .v (.int .i64 (k45 : Int))) :: K) J t o) ?_ ?_ ?_
  ·exact ⟨_, hq, pin, pinh⟩
  ·rintro k45 t o hlt ⟨v43, h, pq⟩
   refine pn pq ?_
   rw [gl_cd9_1] at h
   exact cls
  rintro x46 l47 k45 t o hlt hx51 hw hd ⟨v43, h, pq⟩
  refine pn pq ?_
  rw [gl_cd9_1] at h
  exact cls
 rintro t o pq
 refine pnq pq ?_
 exact cls
theorem d_cr9 : OkC [c_cd9] c_cr9 if_cr9 ks_cr9 := by
 refine ok fun G H ⟨a0, a1⟩ r h => ?_
 refine st1 fun bs t o => ?_
 dsimp only [gf_cr9] at h
 exact cls
theorem d_ca9 : OkC [c_bz9, c_cr9] c_ca9 if_ca9 ks_ca9 := by
 refine ok fun G H a0 r h => ?_
 refine st1 fun bs t o => ?_
 dsimp only [gf_ca9] at h
 try (refine gx ?_; intros; rename_i h)
 obtain ⟨hf, h⟩ := gd h
 obtain ⟨q63, hq, h⟩ := bnd h
 refine w_lastK [] [] (fun K J t o => PP ((3, .v (.string q63)) :: K) J t o) ?_ ?_
 ·refine w_lpL (xs := a0) [0] [] 0 hf (fun K J l68 k66 t o => ∃ v64, gl_ca9_1 a0 l68 k66 v64 = some q63 ∧ PP ((3, .v (.string v64)) :: (4, .v (.int .i64 (k66 : Int))) :: K) J t o) ?_ ?_ ?_
  ·exact ⟨_, hq, pin, pinh⟩
  ·rintro k66 t o hlt ⟨v64, h, pq⟩
   refine pn pq ?_
   rw [gl_ca9_1] at h
   exact cls
  rintro x67 l68 k66 t o hlt hx72 hw hd ⟨v64, h, pq⟩
  refine pn pq ?_
  rw [gl_ca9_1] at h
  exact cls
 rintro t o pq
 refine pnq pq ?_
 exact cls
theorem d_ce9 : OkC [(c_cj9 rounds), c_ca9] c_ce9 if_ce9 ks_ce9 := by
 refine ok fun G H a0 r h => ?_
 refine st1 fun bs t o => ?_
 dsimp only [gf_ce9] at h
 try (refine gx ?_; intros; rename_i h)
 obtain ⟨hf, h⟩ := gd h
 obtain ⟨q192, hq, h⟩ := bnd h
 refine w_lastK [] [] (fun K J t o => PP ((3, .v (.string q192)) :: K) J t o) ?_ ?_
 ·refine w_lpL (xs := a0) [0] [] 0 hf (fun K J l197 k195 t o => ∃ v193, gl_ce9_4 l197 k195 v193 = some q192 ∧ PP ((3, .v (.string v193)) :: (4, .v (.int .i64 (k195 : Int))) :: K) J t o) ?_ ?_ ?_
  ·exact ⟨_, hq, pin, pinh⟩
  ·rintro k195 t o hlt ⟨v193, h, pq⟩
   refine pn pq ?_
   rw [gl_ce9_4] at h
   exact cls
  rintro x196 l197 k195 t o hlt hx201 hw hd ⟨v193, h, pq⟩
  refine pn pq ?_
  rw [gl_ce9_4] at h
  refine gx fun x204 h205 x206 h207 => ?_; intros; rename_i h
  obtain ⟨hf, h⟩ := gd h
  obtain ⟨q234, hq, h⟩ := bnd h
  refine w_lastK [0, 4] [] (fun K J t o => PP ((3, .v (.string q234)) :: K) J t o) ?_ ?_
  ·refine w_lpL (xs := x196.up) [0, 4] [] 0 hf (fun K J l239 k237 t o => ∃ v235, gl_ce9_5 l239 k237 v235 = some q234 ∧ PP ((3, .v (.string v235)) :: (5, .v (.int .i64 (k237 : Int))) :: K) J t o) ?_ ?_ ?_
   ·exact ⟨_, hq, pin, pinh⟩
   ·rintro k237 t o hlt ⟨v235, h, pq⟩
    refine pn pq ?_
    rw [gl_ce9_5] at h
    exact cls
   rintro x238 l239 k237 t o hlt hx243 hw hd ⟨v235, h, pq⟩
   refine pn pq ?_
   rw [gl_ce9_5] at h
   exact cls
  rintro t o pq
  refine pnq pq ?_
  exact cls
 rintro t o pq
 refine pnq pq ?_
 exact cls

theorem d_aa9 : OkC [c_af9] c_aa9 if_aa9 ks_aa9 := by
 refine ok fun G H a0 r h => ?_
 refine st1 fun bs t o => ?_
 dsimp only [gf_aa9] at h
 exact cls
theorem d_am9 : OkC [] c_am9 if_am9 ks_am9 := by
 refine ok fun G H a0 r h => ?_
 refine st1 fun bs t o => ?_
 dsimp only [gf_am9] at h
 exact cls
theorem d_ao9 : OkC [c_am9, c_ae9] c_ao9 if_ao9 ks_ao9 := by
 refine ok fun G H ⟨a0, a1, a2⟩ r h => ?_
 refine st1 fun bs t o => ?_
 dsimp only [gf_ao9] at h
 exact cls
theorem d_ab9 : OkC [c_al9, c_ao9, c_aa9] c_ab9 if_ab9 ks_ab9 := by
 refine ok fun G H a0 r h => ?_
 refine st1 fun bs t o => ?_
 dsimp only [gf_ab9] at h
 try (refine gx ?_; intros; rename_i h)
 obtain ⟨hf, h⟩ := gd h
 obtain ⟨q51, hq, h⟩ := bnd h
 refine w_lastK [0] [] (fun K J t o => ∃ q51_, q51 = .inr q51_ ∧ PP K J t o) ?_ ?_
 ·have ho1 := h
  refine w_lpL (xs := a0) [0, 5, 6] [] 0 hf (fun K J l55 k53 t o => gl_ab9_1 a0 l55 k53  = some q51 ∧ PP ((7, .v (.int .i64 (k53 : Int))) :: K) J t o) ?_ ?_ ?_
  ·exact ⟨hq, pin, pinh⟩
  ·rintro k53 t o hlt ⟨h, pq⟩
   refine pn pq ?_
   rw [gl_ab9_1] at h
   exact cls
  rintro x54 l55 k53 t o hlt hx59 hw hd ⟨h, pq⟩
  refine pn pq ?_
  rw [gl_ab9_1] at h
  exact cls
 rintro t o ⟨q51, rfl, pq⟩
 refine pnq pq ?_
 exact cls
theorem d_ak9 : OkC [c_cs9] c_ak9 if_ak9 ks_ak9 := by
 refine ok fun G H a0 r h => ?_
 refine st1 fun bs t o => ?_
 dsimp only [gf_ak9] at h
 refine gx fun x2 h3 => ?_; intros; rename_i h
 obtain ⟨hf, h⟩ := gd h
 obtain ⟨q51, hq, h⟩ := bnd h
 refine w_lastK [] [] (fun K J t o => PP ((3, .v (.string q51)) :: K) J t o) ?_ ?_
 ·refine w_lpL (xs := a0.pts) [12, 13] [] 0 hf (fun K J l56 k54 t o => ∃ v52, gl_ak9_1 l56 k54 v52 = some q51 ∧ PP ((3, .v (.string v52)) :: (14, .v (.int .i64 (k54 : Int))) :: K) J t o) ?_ ?_ ?_
  ·exact ⟨_, hq, pin, pinh⟩
  ·rintro k54 t o hlt ⟨v52, h, pq⟩
   refine pn pq ?_
   rw [gl_ak9_1] at h
   exact cls
  rintro x55 l56 k54 t o hlt hx60 hw hd ⟨v52, h, pq⟩
  refine pn pq ?_
  rw [gl_ak9_1] at h
  exact cls
 rintro t o pq
 refine pnq pq ?_
 exact cls
theorem d_ag9 : OkC [c_ae9, c_ak9] c_ag9 if_ag9 ks_ag9 := by
 refine ok fun G H a0 r h => ?_
 refine st1 fun bs t o => ?_
 dsimp only [gf_ag9] at h
 refine gx fun x2 h3 x4 h5 x6 h7 x8 h9 => ?_; intros; rename_i h
 obtain ⟨hf, h⟩ := gd h
 obtain ⟨q45, hq, h⟩ := bnd h
 refine w_lastK [] [] (fun K J t o => PP ((3, .v (.string q45)) :: K) J t o) ?_ ?_
 ·refine w_lpL (xs := a0.tags) [17, 18] [] 0 hf (fun K J l50 k48 t o => ∃ v46, gl_ag9_1 l50 k48 v46 = some q45 ∧ PP ((3, .v (.string v46)) :: (19, .v (.int .i64 (k48 : Int))) :: K) J t o) ?_ ?_ ?_
  ·exact ⟨_, hq, pin, pinh⟩
  ·rintro k48 t o hlt ⟨v46, h, pq⟩
   refine pn pq ?_
   rw [gl_ag9_1] at h
   exact cls
  rintro x49 l50 k48 t o hlt hx54 hw hd ⟨v46, h, pq⟩
  refine pn pq ?_
  rw [gl_ag9_1] at h
  exact cls
 rintro t o pq
 refine pnq pq ?_
 exact cls
end Go.Proofs.AM
