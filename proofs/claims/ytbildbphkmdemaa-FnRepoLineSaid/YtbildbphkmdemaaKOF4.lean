/- Lemmas of the proof (KOF4), on an abstract machine. Conditions: none. -/
import Derived.Test.YtbildbphkmdemaaKOD
set_option linter.unusedVariables false
set_option linter.unusedSimpArgs false
set_option maxRecDepth 100000
set_option maxHeartbeats 4000000
namespace Go.Proofs.AM
attribute [local irreducible] vwp vstps vstpLs vstp vdo vret kseq kblk kloop kend kcut kloop2 frzV renV shutK pfzV trnV unrV
theorem d_bb9 {G : Gam} (H_bd9 : Has G c_bd9) (a0 : Feat) (r : Feat) (h : gf_bb9 a0 = some r) : Does G if_bb9 ks_bb9 (c_bb9.args (a0)) [] (c_bb9.ans (a0) r) := by
 refine does_pn (L := [(0, .agg [.v (.string a0.id), .v (.int .i64 a0.shape.kind), .ro (List.map ePt a0.shape.pts), .ro (List.map eTag a0.tags)])]) (fun bs => pin) fun bs t o => ?_
 show vwp _ ib_bb9 _ _
 unfold ib_bb9
 refine w_ir ?_
 unfold gf_bb9 at h
 obtain ⟨x3, h4, h⟩ := bnd h
 refine go ?_;intros
 refine c_call (c := c_bd9) (a0.shape) H_bd9 h4 fun ch => ?_
 obtain ⟨h10, h⟩ := gd h
 refine go ?_;intros
 refine r_app (f := eTag) (xs := ([] : (List Tag))) (ys := a0.tags) rfl (src_ro (fun _ => rfl) (fun _ => rfl)) rfl rfl (by first | rfl | simp) h10 fun b8 c9 => ?_
 refine go ?_;intros
 cases h
 exact r_end
theorem d_be9 {G : Gam} (H_bb9 : Has G c_bb9) (a0 : (List Feat)) (r : (List Feat)) (h : gf_be9 a0 = some r) : Does G if_be9 ks_be9 (c_be9.args (a0)) [] (c_be9.ans (a0) r) := by
 refine does_pn (L := [(0, .ro (List.map (eFeat false) a0))]) (fun bs => pin) fun bs t o => ?_
 show vwp _ ib_be9 _ _
 unfold ib_be9
 refine w_ir ?_
 unfold gf_be9 at h
 obtain ⟨hf60, h⟩ := gd h
 obtain ⟨q47, h75, h⟩ := bnd h
 refine go ?_;intros
 refine w_last (fun t o => ∃ b73 c74, Pin t (ovr [(3, .ref 48 b73 c74 0 q47.length 100)] t) ∧ PinH o (ovh [(48, ent b73 c74 100 (List.map (eFeat true) q47))] o)) ?_ ?_
 ·refine w_loop2 (fun n t o => ∃ l54 k52 v49 b50 c51, gl_be9_1 l54 k52 v49 = some q47 ∧ n = l54.length ∧ (a0).drop k52 = l54 ∧ Pin t (ovr [(3, .ref 48 b50 c51 0 v49.length 100), (7, .ro (List.map (eFeat false) a0)), (8, .v (.int .i64 (a0.length : Int))), (9, .v (.int .i64 (k52 : Int)))] t) ∧ PinH o (ovh [(48, ent b50 c51 100 (List.map (eFeat true) v49))] o)) _ ⟨_, _, _, _, _, h75, rfl, rfl, pin, pinh⟩ ?_
  rintro n t o ⟨l54, k52, v49, b50, c51, h75, rfl, hd55, pq1, pq2⟩
  refine pinned pq1 pq2 ?_
  cases l54 with
  | nil =>
   have hge57 := drop_ge hd55
   rw [gl_be9_1] at h75
   refine go ?_;intros
   rw [hge57]
   refine go ?_;intros
   cases h75
   exact k_cn ⟨_, _, pin, pinh⟩
  | cons x53 l54 =>
   have hlt56 := drop_lt hd55
   have hx58 := drop_ix hd55
   have hw59 := drop_wr hd55 hf60
   rw [gl_be9_1] at h75
   refine go ?_;intros
   rw [hlt56]
   refine go ?_;intros
   refine r_iro rfl rfl hx58 rfl ?_
   obtain ⟨x62, h63, h75⟩ := bnd h75
   refine go ?_;intros
   refine c_call (c := c_bb9) (x53) H_bb9 h63 fun ch => ?_
   refine go ?_;intros
   try simp only [take_map_len, take_ent]
   obtain ⟨h71, h75⟩ := gd h75
   refine go ?_;intros
   refine r_app (f := (eFeat true)) (xs := v49) (ys := ([x62] : (List Feat))) rfl (src_mv rfl rfl (by first | rfl | simp)) rfl rfl (by first | rfl | simp) h71 fun b69 c70 => ?_
   refine go ?_;intros
   rw [hw59]
   exact k_ln2 _ (Nat.lt_succ_self _) ⟨_, _, _, _, _, h75, rfl, drop_next hd55, pin, pinh⟩
 rintro t o ⟨b73, c74, pq1, pq2⟩
 refine pinnedQ pq1 pq2 ?_
 refine go ?_;intros
 cases h
 exact r_end
theorem d_ba9 {G : Gam} (H_be9 : Has G c_be9) (a0 : Commit) (r : Commit) (h : gf_ba9 a0 = some r) : Does G if_ba9 ks_ba9 (c_ba9.args (a0)) [] (c_ba9.ans (a0) r) := by
 refine does_pn (L := [(0, .agg [.ro (List.map eInt a0.up), .ro (List.map (eFeat false) a0.sheet), .v (.string a0.note)])]) (fun bs => pin) fun bs t o => ?_
 show vwp _ ib_ba9 _ _
 unfold ib_ba9
 refine w_ir ?_
 unfold gf_ba9 at h
 obtain ⟨h6, h⟩ := gd h
 refine go ?_;intros
 refine r_app (f := eInt) (xs := ([] : (List Int))) (ys := a0.up) rfl (src_ro (fun _ => rfl) (fun _ => rfl)) rfl rfl (by first | rfl | simp) h6 fun b4 c5 => ?_
 obtain ⟨x7, h8, h⟩ := bnd h
 refine go ?_;intros
 refine c_call (c := c_be9) (a0.sheet) H_be9 h8 fun ch => ?_
 refine go ?_;intros
 cases h
 exact r_end
theorem d_aj9 {G : Gam} (H_bk9 : Has G c_bk9) (H_av9 : Has G c_av9) (H_az9 : Has G c_az9) (H_am9 : Has G c_am9) (H_br9 : Has G c_br9) (H_ao9 : Has G c_ao9) (H_as9 : Has G c_as9) (a0 : Repo) (r : Bool) (h : gf_aj9 a0 = some r) : Does G if_aj9 ks_aj9 (c_aj9.args (a0)) [] (c_aj9.ans (a0) r) := by
 refine does_pn (L := [(0, .agg [.ro (List.map (eCommit false) a0.commits), .ro (List.map eHead a0.heads)])]) (fun bs => pin) fun bs t o => ?_
 show vwp _ ib_aj9 _ _
 unfold ib_aj9
 refine w_ir ?_
 unfold gf_aj9 at h
 obtain ⟨x2, h3, h⟩ := bnd h
 refine go ?_;intros
 refine c_call (c := c_bk9) ((a0.commits.length : Int), 1, 14) H_bk9 h3 fun ch => ?_
 refine go ?_;intros
 refine s_split rfl (fun c => ?_) (fun c => ?_)
 ·replace h := itt h c
  rw [c]
  refine go ?_;intros
  cases h
  exact r_end
 replace h := itf h c
 rw [c]
 obtain ⟨x4, h5, h⟩ := bnd h
 refine go ?_;intros
 refine c_call (c := c_bk9) ((a0.heads.length : Int), 1, 4) H_bk9 h5 fun ch => ?_
 refine go ?_;intros
 refine w_cond rfl (fun c => ?_) (fun c => ?_)
 ·replace h := itt h c
  try rw [c]
  refine go ?_;intros
  cases h
  exact r_end
 replace h := itf h c
 try rw [c]
 obtain ⟨hf197, h⟩ := gd h
 obtain ⟨q186, h305, h⟩ := bnd h
 refine go ?_;intros
 refine w_last (fun t o => ∃ q186_, q186 = .inr q186_ ∧ ∃ b255, Pin t (ovr [(1, .ptr 8 b255 210 0 0)] t) ∧ PinH o (ovh [(8, ⟨b255, 1, 210, true, [[.sl false 3 (List.map (eCommit false) a0.commits), .sl false 2 (List.map eHead a0.heads)]]⟩)] o)) ?_ ?_
 ·refine w_loop2 (fun n t o => ∃ l191 k189  b188, gl_aj9_4 a0 l191 k189  = some q186 ∧ n = l191.length ∧ (a0.commits).drop k189 = l191 ∧ Pin t (ovr [(1, .ptr 8 b188 210 0 0), (22, .ro (List.map (eCommit false) a0.commits)), (23, .v (.int .i64 (a0.commits.length : Int))), (24, .v (.int .i64 (k189 : Int)))] t) ∧ PinH o (ovh [(8, ⟨b188, 1, 210, true, [[.sl false 3 (List.map (eCommit false) a0.commits), .sl false 2 (List.map eHead a0.heads)]]⟩)] o)) _ ⟨_, _, _, h305, rfl, rfl, pin, pinh⟩ ?_
  rintro n t o ⟨l191, k189, b188, h305, rfl, hd192, pq1, pq2⟩
  refine pinned pq1 pq2 ?_
  cases l191 with
  | nil =>
   have hge194 := drop_ge hd192
   rw [gl_aj9_4] at h305
   refine go ?_;intros
   rw [hge194]
   refine go ?_;intros
   cases h305
   exact k_cn ⟨_, rfl, _, pin, pinh⟩
  | cons x190 l191 =>
   have hlt193 := drop_lt hd192
   have hx195 := drop_ix hd192
   have hw196 := drop_wr hd192 hf197
   rw [gl_aj9_4] at h305
   refine go ?_;intros
   rw [hlt193]
   refine go ?_;intros
   refine r_iro rfl rfl hx195 rfl ?_
   obtain ⟨x199, h200, h305⟩ := bnd h305
   refine go ?_;intros
   refine c_call (c := c_av9) (x190.sheet) H_av9 h200 fun ch => ?_
   refine go ?_;intros
   refine s_split rfl (fun c => ?_) (fun c => ?_)
   ·replace h305 := itt h305 c
    rw [c]
    refine go ?_;intros
    cases h305
    replace h : some _ = some _ := h
    cases h
    exact r_end
   replace h305 := itf h305 c
   rw [c]
   obtain ⟨x201, h202, h305⟩ := bnd h305
   refine go ?_;intros
   refine c_call (c := c_az9) (x190.note) H_az9 h202 fun ch => ?_
   refine go ?_;intros
   refine s_split rfl (fun c => ?_) (fun c => ?_)
   ·replace h305 := itt h305 c
    rw [c]
    refine go ?_;intros
    cases h305
    replace h : some _ = some _ := h
    cases h
    exact r_end
   replace h305 := itf h305 c
   rw [c]
   obtain ⟨x203, h204, h305⟩ := bnd h305
   refine go ?_;intros
   refine c_call (c := c_am9) (a0, x190) H_am9 h204 fun ch => ?_
   refine go ?_;intros
   refine s_split rfl (fun c => ?_) (fun c => ?_)
   ·replace h305 := itt h305 c
    rw [c]
    refine go ?_;intros
    cases h305
    replace h : some _ = some _ := h
    cases h
    exact r_end
   replace h305 := itf h305 c
   rw [c]
   refine go ?_;intros
   refine s_split rfl (fun c => ?_) (fun c => ?_)
   ·replace h305 := itt h305 (by first | exact c | (have c2 := c; simp only [List.length_map] at c2; exact c2))
    rw [c]
    refine go ?_;intros
    cases h305
    replace h : some _ = some _ := h
    cases h
    exact r_end
   replace h305 := itf h305 (by first | exact c | (have c2 := c; simp only [List.length_map] at c2; exact c2))
   rw [c]
   refine go ?_;intros
   refine w_cond rfl (fun c => ?_) (fun c => ?_)
   ·replace h305 := itt h305 (by first | exact c | (have c2 := c; simp only [List.length_map] at c2; exact c2))
    try rw [c]
    refine go ?_;intros
    cases h305
    replace h : some _ = some _ := h
    cases h
    exact r_end
   replace h305 := itf h305 (by first | exact c | (have c2 := c; simp only [List.length_map] at c2; exact c2))
   try rw [c]
   obtain ⟨hf246, h305⟩ := gd h305
   obtain ⟨q234, h306, h305⟩ := bnd h305
   refine go ?_;intros
   refine w_last (fun t o => ∃ q234_, q234 = .inr q234_ ∧ ∃ b253 b254, Pin t (ovr [(1, .ptr 8 b253 210 0 0), (22, .ro (List.map (eCommit false) a0.commits)), (23, .v (.int .i64 (a0.commits.length : Int))), (24, .v (.int .i64 (k189 : Int))), (34, .ptr 32 b254 115 0 2), (35, .v (.string x190.note)), (36, .v (.bool x201)), (37, .v (.bool false)), (40, .agg [.ro (List.map (eCommit false) a0.commits), .ro (List.map eHead a0.heads)]), (41, .agg [.ro (List.map eInt x190.up), .ro (List.map (eFeat false) x190.sheet), .v (.string x190.note)]), (42, .v (.int .i64 x203)), (43, .v (.int .i64 (k189 : Int))), (44, .v (.bool false)), (47, .v (.int .i64 (k189 : Int))), (48, .v (.bool ((k189 : Int) == 0))), (49, .ptr 32 b254 115 0 0), (50, .ro (List.map eInt x190.up)), (51, .v (.int .i64 (x190.up.length : Int))), (52, .v (.bool ((x190.up.length : Int) == 0))), (53, .v (.bool false)), (56, .ptr 32 b254 115 0 0), (57, .ro (List.map eInt x190.up)), (58, .v (.int .i64 (x190.up.length : Int))), (59, .v (.bool false))] t) ∧ PinH o (ovh [(8, ⟨b253, 1, 210, true, [[.sl false 3 (List.map (eCommit false) a0.commits), .sl false 2 (List.map eHead a0.heads)]]⟩), (32, ⟨b254, 1, 115, true, [[.sl false 1 (List.map eInt x190.up), .sl false 4 (List.map (eFeat false) x190.sheet), .v (.string x190.note)]]⟩)] o)) ?_ ?_
   ·refine w_loop2 (fun n t o => ∃ l240 k238  b236 b237, gl_aj9_5 k189 x190 l240 k238  = some q234 ∧ n = l240.length ∧ (x190.up).drop k238 = l240 ∧ Pin t (ovr [(1, .ptr 8 b236 210 0 0), (3, .v (.int .i64 (k189 : Int))), (4, .ptr 32 b237 115 0 0), (22, .ro (List.map (eCommit false) a0.commits)), (23, .v (.int .i64 (a0.commits.length : Int))), (24, .v (.int .i64 (k189 : Int))), (34, .ptr 32 b237 115 0 2), (35, .v (.string x190.note)), (36, .v (.bool x201)), (37, .v (.bool false)), (40, .agg [.ro (List.map (eCommit false) a0.commits), .ro (List.map eHead a0.heads)]), (41, .agg [.ro (List.map eInt x190.up), .ro (List.map (eFeat false) x190.sheet), .v (.string x190.note)]), (42, .v (.int .i64 x203)), (43, .v (.int .i64 (k189 : Int))), (44, .v (.bool false)), (47, .v (.int .i64 (k189 : Int))), (48, .v (.bool ((k189 : Int) == 0))), (49, .ptr 32 b237 115 0 0), (50, .ro (List.map eInt x190.up)), (51, .v (.int .i64 (x190.up.length : Int))), (52, .v (.bool ((x190.up.length : Int) == 0))), (53, .v (.bool false)), (56, .ptr 32 b237 115 0 0), (57, .ro (List.map eInt x190.up)), (58, .v (.int .i64 (x190.up.length : Int))), (59, .v (.bool false)), (62, .ro (List.map eInt x190.up)), (63, .v (.int .i64 (x190.up.length : Int))), (64, .v (.int .i64 (k238 : Int)))] t) ∧ PinH o (ovh [(8, ⟨b236, 1, 210, true, [[.sl false 3 (List.map (eCommit false) a0.commits), .sl false 2 (List.map eHead a0.heads)]]⟩), (32, ⟨b237, 1, 115, true, [[.sl false 1 (List.map eInt x190.up), .sl false 4 (List.map (eFeat false) x190.sheet), .v (.string x190.note)]]⟩)] o)) _ ⟨_, _, _, _, h306, rfl, rfl, pin, pinh⟩ ?_
    rintro n t o ⟨l240, k238, b236, b237, h306, rfl, hd241, pq1, pq2⟩
    refine pinned pq1 pq2 ?_
    cases l240 with
    | nil =>
     have hge243 := drop_ge hd241
     rw [gl_aj9_5] at h306
     refine go ?_;intros
     rw [hge243]
     refine go ?_;intros
     cases h306
     exact k_cn ⟨_, rfl, _, _, pin, pinh⟩
    | cons x239 l240 =>
     have hlt242 := drop_lt hd241
     have hx244 := drop_ix hd241
     have hw245 := drop_wr hd241 hf246
     rw [gl_aj9_5] at h306
     refine go ?_;intros
     rw [hlt242]
     refine go ?_;intros
     refine r_iro rfl rfl hx244 rfl ?_
     obtain ⟨x247, h248, h306⟩ := bnd h306
     refine go ?_;intros
     refine c_call (c := c_bk9) (x239, 0, (IntKind.i64.wrap ((k189 : Int) - 1))) H_bk9 h248 fun ch => ?_
     refine go ?_;intros
     refine s_split rfl (fun c => ?_) (fun c => ?_)
     ·replace h306 := itt h306 c
      rw [c]
      refine go ?_;intros
      cases h306
      replace h305 : some _ = some _ := h305
      cases h305
      replace h : some _ = some _ := h
      cases h
      exact r_end
     replace h306 := itf h306 c
     rw [c]
     obtain ⟨x249, h250, h306⟩ := bnd h306
     refine go ?_;intros
     refine r_sls (f := eInt) rfl rfl rfl h250 (fun _ => rfl) ?_
     obtain ⟨x251, h252, h306⟩ := bnd h306
     refine go ?_;intros
     refine c_call (c := c_br9) (x249, x239) H_br9 h252 fun ch => ?_
     refine go ?_;intros
     refine w_cond rfl (fun c => ?_) (fun c => ?_)
     ·replace h306 := itt h306 c
      try rw [c]
      refine go ?_;intros
      cases h306
      replace h305 : some _ = some _ := h305
      cases h305
      replace h : some _ = some _ := h
      cases h
      exact r_end
     replace h306 := itf h306 c
     try rw [c]
     refine go ?_;intros
     rw [hw245]
     exact k_ln2 _ (Nat.lt_succ_self _) ⟨_, _, _, _, h306, rfl, drop_next hd241, pin, pinh⟩
   rintro t o ⟨q234, rfl, b253, b254, pq1, pq2⟩
   refine pinnedQ pq1 pq2 ?_
   refine go ?_;intros
   rw [hw196]
   exact k_ln2 _ (Nat.lt_succ_self _) ⟨_, _, _, h305, rfl, drop_next hd192, pin, pinh⟩
 rintro t o ⟨q186, rfl, b255, pq1, pq2⟩
 refine pinnedQ pq1 pq2 ?_
 obtain ⟨hf297, h⟩ := gd h
 obtain ⟨q286, h307, h⟩ := bnd h
 refine go ?_;intros
 refine w_last (fun t o => ∃ q286_, q286 = .inr q286_ ∧ Pin t (ovr [] t) ∧ PinH o (ovh [] o)) ?_ ?_
 ·refine w_loop2 (fun n t o => ∃ l291 k289  b288, gl_aj9_6 a0 l291 k289  = some q286 ∧ n = l291.length ∧ (a0.heads).drop k289 = l291 ∧ Pin t (ovr [(1, .ptr 8 b288 210 0 0), (85, .ro (List.map eHead a0.heads)), (86, .v (.int .i64 (a0.heads.length : Int))), (87, .v (.int .i64 (k289 : Int)))] t) ∧ PinH o (ovh [(8, ⟨b288, 1, 210, true, [[.sl false 3 (List.map (eCommit false) a0.commits), .sl false 2 (List.map eHead a0.heads)]]⟩)] o)) _ ⟨_, _, _, h307, rfl, rfl, pin, pinh⟩ ?_
  rintro n t o ⟨l291, k289, b288, h307, rfl, hd292, pq1, pq2⟩
  refine pinned pq1 pq2 ?_
  cases l291 with
  | nil =>
   have hge294 := drop_ge hd292
   rw [gl_aj9_6] at h307
   refine go ?_;intros
   rw [hge294]
   refine go ?_;intros
   cases h307
   exact k_cn ⟨_, rfl, pin, pinh⟩
  | cons x290 l291 =>
   have hlt293 := drop_lt hd292
   have hx295 := drop_ix hd292
   have hw296 := drop_wr hd292 hf297
   rw [gl_aj9_6] at h307
   refine go ?_;intros
   rw [hlt293]
   refine go ?_;intros
   refine r_iro rfl rfl hx295 rfl ?_
   obtain ⟨x299, h300, h307⟩ := bnd h307
   refine go ?_;intros
   refine c_call (c := c_az9) (x290.name) H_az9 h300 fun ch => ?_
   refine go ?_;intros
   refine s_split rfl (fun c => ?_) (fun c => ?_)
   ·replace h307 := itt h307 c
    rw [c]
    refine go ?_;intros
    cases h307
    replace h : some _ = some _ := h
    cases h
    exact r_end
   replace h307 := itf h307 c
   rw [c]
   obtain ⟨x301, h302, h307⟩ := bnd h307
   refine go ?_;intros
   refine c_call (c := c_ao9) (a0, x290.name) H_ao9 h302 fun ch => ?_
   refine go ?_;intros
   refine s_split rfl (fun c => ?_) (fun c => ?_)
   ·replace h307 := itt h307 c
    rw [c]
    refine go ?_;intros
    cases h307
    replace h : some _ = some _ := h
    cases h
    exact r_end
   replace h307 := itf h307 c
   rw [c]
   obtain ⟨x303, h304, h307⟩ := bnd h307
   refine go ?_;intros
   refine c_call (c := c_as9) (a0, x290.at_) H_as9 h304 fun ch => ?_
   refine go ?_;intros
   refine w_cond rfl (fun c => ?_) (fun c => ?_)
   ·replace h307 := itt h307 c
    try rw [c]
    refine go ?_;intros
    cases h307
    replace h : some _ = some _ := h
    cases h
    exact r_end
   replace h307 := itf h307 c
   try rw [c]
   refine go ?_;intros
   rw [hw296]
   exact k_ln2 _ (Nat.lt_succ_self _) ⟨_, _, _, h307, rfl, drop_next hd292, pin, pinh⟩
 rintro t o ⟨q286, rfl, pq1, pq2⟩
 refine pinnedQ pq1 pq2 ?_
 refine go ?_;intros
 cases h
 exact r_end
theorem d_aq9 {G : Gam}  (a0 : Repo) (a1 : Int) (r : (List Bool)) (h : gf_aq9 a0 a1 = some r) : Does G if_aq9 ks_aq9 (c_aq9.args (a0, a1)) [] (c_aq9.ans (a0, a1) r) := by
 refine does_pn (L := [(0, .agg [.ro (List.map (eCommit false) a0.commits), .ro (List.map eHead a0.heads)]), (1, .v (.int .i64 a1))]) (fun bs => pin) fun bs t o => ?_
 show vwp _ ib_aq9 _ _
 unfold ib_aq9
 refine w_ir ?_
 unfold gf_aq9 at h
 obtain ⟨h4, h⟩ := gd h
 refine go ?_;intros
 refine r_mks (f := eBool) (x := false) rfl rfl (band1 h4) (band2 h4) rfl fun b2 => ?_
 obtain ⟨x5, h6, h⟩ := bnd h
 refine go ?_;intros
 refine r_ire (xs := (List.replicate ((a0.commits.length : Int)).toNat false)) rfl rfl h6 rfl ?_
 refine go ?_;intros
 refine c_ste (f := eBool) (List.replicate ((a0.commits.length : Int)).toNat false) true (idx_get h6).2 ?_
 obtain ⟨q150, h205, h⟩ := bnd h
 refine go ?_;intros
 refine w_last (fun t o => ∃ b203 c204, Pin t (ovr [(5, .ref 96 b203 c204 0 q150.length 33)] t) ∧ PinH o (ovh [(96, ent b203 c204 33 (List.map eBool q150))] o)) ?_ ?_
 ·refine w_loop2 (fun n t o => ∃ n156 v151 v153 b152 b154 c155, gl_aq9_4 a0 n156 v151 v153 = some q150 ∧ n156 = n ∧ Pin t (ovr [(2, .ptr 16 b152 210 0 0), (5, .ref 96 b154 c155 0 v153.length 33), (6, .v (.int .i64 v151))] t) ∧ PinH o (ovh [(16, ⟨b152, 1, 210, true, [[.sl false 3 (List.map (eCommit false) a0.commits), .sl false 2 (List.map eHead a0.heads)]]⟩), (96, ent b154 c155 33 (List.map eBool v153))] o)) _ ⟨_, _, _, _, _, _, h205, rfl, pin, pinh⟩ ?_
  rintro n t o ⟨n156, v151, v153, b152, b154, c155, h205, rfl, pq1, pq2⟩
  refine pinned pq1 pq2 ?_
  cases n156 with
  | zero => rw [gl_aq9_4] at h205; cases h205
  | succ n156 =>
   rw [gl_aq9_4] at h205
   refine go ?_;intros
   refine w_cond rfl (fun c => ?_) (fun c => ?_)
   ·replace h205 := itt h205 c
    try rw [c]
    obtain ⟨x157, h158, h205⟩ := bnd h205
    refine go ?_;intros
    refine r_ire (xs := v153) rfl rfl h158 rfl ?_
    refine go ?_;intros
    refine r_lde (f := eBool) (xs := v153) (x := x157) rfl rfl (idx_get h158).2 rfl rfl rfl ?_
    refine go ?_;intros
    refine w_cond rfl (fun c => ?_) (fun c => ?_)
    ·replace h205 := itt h205 c
     try rw [c]
     obtain ⟨x159, h160, h205⟩ := bnd h205
     refine go ?_;intros
     refine r_iro rfl rfl h160 rfl ?_
     obtain ⟨hf195, h205⟩ := gd h205
     obtain ⟨q181, h206, h205⟩ := bnd h205
     refine go ?_;intros
     refine w_last (fun t o => ∃ b198 b200 c201, Pin t (ovr [(2, .ptr 16 b198 210 0 0), (5, .ref 96 b200 c201 0 q181.length 33), (6, .v (.int .i64 v151))] t) ∧ PinH o (ovh [(16, ⟨b198, 1, 210, true, [[.sl false 3 (List.map (eCommit false) a0.commits), .sl false 2 (List.map eHead a0.heads)]]⟩), (96, ent b200 c201 33 (List.map eBool q181))] o)) ?_ ?_
     ·refine w_loop2 (fun n t o => ∃ l189 k187 v184 b183 b185 c186, gl_aq9_5 l189 k187 v184 = some q181 ∧ n = l189.length ∧ (x159.up).drop k187 = l189 ∧ Pin t (ovr [(2, .ptr 16 b183 210 0 0), (5, .ref 96 b185 c186 0 v184.length 33), (6, .v (.int .i64 v151)), (30, .ro (List.map eInt x159.up)), (31, .v (.int .i64 (x159.up.length : Int))), (32, .v (.int .i64 (k187 : Int)))] t) ∧ PinH o (ovh [(16, ⟨b183, 1, 210, true, [[.sl false 3 (List.map (eCommit false) a0.commits), .sl false 2 (List.map eHead a0.heads)]]⟩), (96, ent b185 c186 33 (List.map eBool v184))] o)) _ ⟨_, _, _, _, _, _, h206, rfl, rfl, pin, pinh⟩ ?_
      rintro n t o ⟨l189, k187, v184, b183, b185, c186, h206, rfl, hd190, pq1, pq2⟩
      refine pinned pq1 pq2 ?_
      cases l189 with
      | nil =>
       have hge192 := drop_ge hd190
       rw [gl_aq9_5] at h206
       refine go ?_;intros
       rw [hge192]
       refine go ?_;intros
       cases h206
       exact k_cn ⟨_, _, _, pin, pinh⟩
      | cons x188 l189 =>
       have hlt191 := drop_lt hd190
       have hx193 := drop_ix hd190
       have hw194 := drop_wr hd190 hf195
       rw [gl_aq9_5] at h206
       refine go ?_;intros
       rw [hlt191]
       refine go ?_;intros
       refine r_iro rfl rfl hx193 rfl ?_
       obtain ⟨x196, h197, h206⟩ := bnd h206
       refine go ?_;intros
       refine r_ire (xs := v184) rfl rfl h197 rfl ?_
       refine go ?_;intros
       refine c_ste (f := eBool) v184 true (idx_get h197).2 ?_
       refine go ?_;intros
       rw [hw194]
       exact k_ln2 _ (Nat.lt_succ_self _) ⟨_, _, _, _, _, _, h206, rfl, drop_next hd190, pin, pinh⟩
     rintro t o ⟨b198, b200, c201, pq1, pq2⟩
     refine pinnedQ pq1 pq2 ?_
     refine go ?_;intros
     exact k_ln2 _ (Nat.lt_succ_self _) ⟨_, _, _, _, _, _, h205, rfl, pin, pinh⟩
    replace h205 := itf h205 c
    try rw [c]
    refine go ?_;intros
    exact k_ln2 _ (Nat.lt_succ_self _) ⟨_, _, _, _, _, _, h205, rfl, pin, pinh⟩
   replace h205 := itf h205 c
   try rw [c]
   refine go ?_;intros
   cases h205
   exact k_cn ⟨_, _, pin, pinh⟩
 rintro t o ⟨b203, c204, pq1, pq2⟩
 refine pinnedQ pq1 pq2 ?_
 refine go ?_;intros
 cases h
 exact r_end
theorem d_ah9 {G : Gam} (H_aq9 : Has G c_aq9) (a0 : Int) (a1 : Repo) (a2 : Int) (r : Bool) (h : gf_ah9 a0 a1 a2 = some r) : Does G if_ah9 ks_ah9 (c_ah9.args (a0, a1, a2)) [] (c_ah9.ans (a0, a1, a2) r) := by
 refine does_pn (L := [(0, .v (.int .i64 a0)), (1, .rptr [.sl false 3 (List.map (eCommit false) a1.commits), .sl false 2 (List.map eHead a1.heads)]), (2, .rptr [.v (.int .i64 a2)])]) (fun bs => pin) fun bs t o => ?_
 show vwp _ ib_ah9 _ _
 unfold ib_ah9
 refine w_ir ?_
 unfold gf_ah9 at h
 obtain ⟨x1, h2, h⟩ := bnd h
 refine go ?_;intros
 refine c_call (c := c_aq9) (a1, a0) H_aq9 h2 fun ch => ?_
 obtain ⟨x5, h6, h⟩ := bnd h
 refine go ?_;intros
 refine r_ire (xs := x1) rfl rfl h6 rfl ?_
 refine go ?_;intros
 refine r_lde (f := eBool) (xs := x1) (x := x5) rfl rfl (idx_get h6).2 rfl rfl rfl ?_
 refine go ?_;intros
 cases h
 exact r_end
theorem d_ch9 {G : Gam} (H_ah9 : Has G c_ah9) (a0 : (List Int)) (a1 : Repo) (a2 : Int) (r : Int) (h : gf_ch9 a0 a1 a2 = some r) : Does G if_cg9 ks_cg9 (c_ch9.args (a0, a1, a2)) [] (c_ch9.ans (a0, a1, a2) r) := by
 refine does_pn (L := [(0, .ro (List.map eInt a0)), (1, .fn 98 [.rptr [.sl false 3 (List.map (eCommit false) a1.commits), .sl false 2 (List.map eHead a1.heads)], .rptr [.v (.int .i64 a2)]])]) (fun bs => pin) fun bs t o => ?_
 show vwp _ ib_cg9 _ _
 unfold ib_cg9
 refine w_ir ?_
 unfold gf_ch9 at h
 obtain ⟨hf24, h⟩ := gd h
 obtain ⟨q14, h27, h⟩ := bnd h
 refine go ?_;intros
 refine w_last (fun t o => ∃ q14_, q14 = .inr q14_ ∧ Pin t (ovr [] t) ∧ PinH o (ovh [] o)) ?_ ?_
 ·refine w_loop2 (fun n t o => ∃ l18 k16  , gl_ch9_1 a1 a2 l18 k16  = some q14 ∧ n = l18.length ∧ (a0).drop k16 = l18 ∧ Pin t (ovr [(0, .ro (List.map eInt a0)), (1, .fn 98 [.rptr [.sl false 3 (List.map (eCommit false) a1.commits), .sl false 2 (List.map eHead a1.heads)], .rptr [.v (.int .i64 a2)]]), (7, .v (.int .i64 (a0.length : Int))), (8, .v (.int .i64 (k16 : Int)))] t) ∧ PinH o (ovh [] o)) _ ⟨_, _, h27, rfl, rfl, pin, pinh⟩ ?_
  rintro n t o ⟨l18, k16, h27, rfl, hd19, pq1, pq2⟩
  refine pinned pq1 pq2 ?_
  cases l18 with
  | nil =>
   have hge21 := drop_ge hd19
   rw [gl_ch9_1] at h27
   refine go ?_;intros
   rw [hge21]
   refine go ?_;intros
   cases h27
   exact k_cn ⟨_, rfl, pin, pinh⟩
  | cons x17 l18 =>
   have hlt20 := drop_lt hd19
   have hx22 := drop_ix hd19
   have hw23 := drop_wr hd19 hf24
   rw [gl_ch9_1] at h27
   refine go ?_;intros
   rw [hlt20]
   refine go ?_;intros
   refine r_iro rfl rfl hx22 rfl ?_
   obtain ⟨x25, h26, h27⟩ := bnd h27
   refine go ?_;intros
   refine c_calld (c := c_ah9) (x17, a1, a2) H_ah9 h26 fun ch => ?_
   refine go ?_;intros
   refine w_cond rfl (fun c => ?_) (fun c => ?_)
   ·replace h27 := itt h27 c
    try rw [c]
    refine go ?_;intros
    cases h27
    replace h : some _ = some _ := h
    cases h
    exact r_end
   replace h27 := itf h27 c
   try rw [c]
   refine go ?_;intros
   rw [hw23]
   exact k_ln2 _ (Nat.lt_succ_self _) ⟨_, _, h27, rfl, drop_next hd19, pin, pinh⟩
 rintro t o ⟨q14, rfl, pq1, pq2⟩
 refine pinnedQ pq1 pq2 ?_
 refine go ?_;intros
 cases h
 exact r_end
theorem d_bq9 {G : Gam} (H_ch9 : Has G c_ch9) (a0 : (List Int)) (a1 : Repo) (a2 : Int) (r : Bool) (h : gf_bq9 a0 a1 a2 = some r) : Does G if_bp9 ks_bp9 (c_bq9.args (a0, a1, a2)) [] (c_bq9.ans (a0, a1, a2) r) := by
 refine does_pn (L := [(0, .ro (List.map eInt a0)), (1, .fn 98 [.rptr [.sl false 3 (List.map (eCommit false) a1.commits), .sl false 2 (List.map eHead a1.heads)], .rptr [.v (.int .i64 a2)]])]) (fun bs => pin) fun bs t o => ?_
 show vwp _ ib_bp9 _ _
 unfold ib_bp9
 refine w_ir ?_
 unfold gf_bq9 at h
 obtain ⟨x1, h2, h⟩ := bnd h
 refine go ?_;intros
 refine c_call (c := c_ch9) (a0, a1, a2) H_ch9 h2 fun ch => ?_
 refine go ?_;intros
 cases h
 exact r_end
theorem d_ag9 {G : Gam} (H_aj9 : Has G c_aj9) (H_as9 : Has G c_as9) (H_aq9 : Has G c_aq9) (H_bq9 : Has G c_bq9) (a0 : Repo) (a1 : Int) (a2 : Int) (r : (List Int)) (h : gf_ag9 a0 a1 a2 = some r) : Does G if_ag9 ks_ag9 (c_ag9.args (a0, a1, a2)) [] (c_ag9.ans (a0, a1, a2) r) := by
 refine does_pn (L := [(0, .agg [.ro (List.map (eCommit false) a0.commits), .ro (List.map eHead a0.heads)]), (1, .v (.int .i64 a1)), (2, .v (.int .i64 a2))]) (fun bs => pin) fun bs t o => ?_
 show vwp _ ib_ag9 _ _
 unfold ib_ag9
 refine w_ir ?_
 unfold gf_ag9 at h
 obtain ⟨x2, h3, h⟩ := bnd h
 refine go ?_;intros
 refine c_call (c := c_aj9) (a0) H_aj9 h3 fun ch => ?_
 refine go ?_;intros
 refine s_split rfl (fun c => ?_) (fun c => ?_)
 ·replace h := itt h c
  rw [c]
  refine go ?_;intros
  cases h
  exact r_end
 replace h := itf h c
 rw [c]
 obtain ⟨x4, h5, h⟩ := bnd h
 refine go ?_;intros
 refine c_call (c := c_as9) (a0, a1) H_as9 h5 fun ch => ?_
 refine go ?_;intros
 refine s_split rfl (fun c => ?_) (fun c => ?_)
 ·replace h := itt h c
  rw [c]
  refine go ?_;intros
  cases h
  exact r_end
 replace h := itf h c
 rw [c]
 obtain ⟨x6, h7, h⟩ := bnd h
 refine go ?_;intros
 refine c_call (c := c_as9) (a0, a2) H_as9 h7 fun ch => ?_
 refine go ?_;intros
 refine w_cond rfl (fun c => ?_) (fun c => ?_)
 ·replace h := itt h c
  try rw [c]
  refine go ?_;intros
  cases h
  exact r_end
 replace h := itf h c
 try rw [c]
 obtain ⟨x11, h12, h⟩ := bnd h
 refine go ?_;intros
 refine c_call (c := c_aq9) (a0, a1) H_aq9 h12 fun ch => ?_
 obtain ⟨x15, h16, h⟩ := bnd h
 refine go ?_;intros
 refine c_call (c := c_aq9) (a0, a2) H_aq9 h16 fun ch => ?_
 obtain ⟨q101, h147, h⟩ := bnd h
 refine go ?_;intros
 refine w_last (fun t o => ∃ b145 c146, Pin t (ovr [(9, .ref 264 b145 c146 0 q101.length 17)] t) ∧ PinH o (ovh [(264, ent b145 c146 17 (List.map eInt q101))] o)) ?_ ?_
 ·refine w_loop2 (fun n t o => ∃ n112 v107 v110 b102 b103 c104 b105 c106 b108 c109 b111, gl_ah9 x11 x15 a0 n112 v107 v110 = some q101 ∧ n112 = n ∧ Pin t (ovr [(3, .ptr 24 b102 210 0 0), (7, .ref 232 b103 c104 0 x11.length 33), (8, .ref 256 b105 c106 0 x15.length 33), (9, .ref 264 b108 c109 0 v107.length 17), (10, .ptr 80 b111 17 0 0)] t) ∧ PinH o (ovh [(24, ⟨b102, 1, 210, true, [[.sl false 3 (List.map (eCommit false) a0.commits), .sl false 2 (List.map eHead a0.heads)]]⟩), (232, ent b103 c104 33 (List.map eBool x11)), (256, ent b105 c106 33 (List.map eBool x15)), (264, ent b108 c109 17 (List.map eInt v107)), (80, ⟨b111, 1, 17, true, [[.v (.int .i64 v110)]]⟩)] o)) _ ⟨_, _, _, _, _, _, _, _, _, _, _, h147, rfl, pin, pinh⟩ ?_
  rintro n t o ⟨n112, v107, v110, b102, b103, c104, b105, c106, b108, c109, b111, h147, rfl, pq1, pq2⟩
  refine pinned pq1 pq2 ?_
  cases n112 with
  | zero => rw [gl_ah9] at h147; cases h147
  | succ n112 =>
   rw [gl_ah9] at h147
   refine go ?_;intros
   refine w_cond rfl (fun c => ?_) (fun c => ?_)
   ·replace h147 := itt h147 c
    try rw [c]
    obtain ⟨q123, h148, h147⟩ := bnd h147
    refine go ?_;intros
    refine w_cut (fun t o => ∃ b134 b135 c136 b137 c138 b140 c141 b142, Pin t (ovr [(3, .ptr 24 b134 210 0 0), (7, .ref 232 b135 c136 0 x11.length 33), (8, .ref 256 b137 c138 0 x15.length 33), (9, .ref 264 b140 c141 0 q123.length 17), (10, .ptr 80 b142 17 0 0)] t) ∧ PinH o (ovh [(24, ⟨b134, 1, 210, true, [[.sl false 3 (List.map (eCommit false) a0.commits), .sl false 2 (List.map eHead a0.heads)]]⟩), (232, ent b135 c136 33 (List.map eBool x11)), (256, ent b137 c138 33 (List.map eBool x15)), (264, ent b140 c141 17 (List.map eInt q123)), (80, ⟨b142, 1, 17, true, [[.v (.int .i64 v110)]]⟩)] o)) ?_ ?_
    ·obtain ⟨x124, h125, h148⟩ := bnd h148
     refine go ?_;intros
     refine r_ire (xs := x11) rfl rfl h125 rfl ?_
     refine go ?_;intros
     refine r_lde (f := eBool) (xs := x11) (x := x124) rfl rfl (idx_get h125).2 rfl rfl rfl ?_
     refine go ?_;intros
     refine s_split rfl (fun c => ?_) (fun c => ?_)
     ·replace h148 := itt h148 c
      rw [c]
      refine go ?_;intros
      cases h148
      exact k_cn ⟨_, _, _, _, _, _, _, _, pin, pinh⟩
     replace h148 := itf h148 c
     rw [c]
     obtain ⟨x126, h127, h148⟩ := bnd h148
     refine go ?_;intros
     refine r_ire (xs := x15) rfl rfl h127 rfl ?_
     refine go ?_;intros
     refine r_lde (f := eBool) (xs := x15) (x := x126) rfl rfl (idx_get h127).2 rfl rfl rfl ?_
     refine go ?_;intros
     refine w_cond rfl (fun c => ?_) (fun c => ?_)
     ·replace h148 := itt h148 c
      try rw [c]
      refine go ?_;intros
      cases h148
      exact k_cn ⟨_, _, _, _, _, _, _, _, pin, pinh⟩
     replace h148 := itf h148 c
     try rw [c]
     obtain ⟨x128, h129, h148⟩ := bnd h148
     refine go ?_;intros
     refine c_call (c := c_bq9) (v107, a0, v110) H_bq9 h129 fun ch => ?_
     refine go ?_;intros
     refine w_cond rfl (fun c => ?_) (fun c => ?_)
     ·replace h148 := itt h148 c
      try rw [c]
      obtain ⟨h133, h148⟩ := gd h148
      refine go ?_;intros
      refine r_app (f := eInt) (xs := v107) (ys := ([v110] : (List Int))) rfl (src_mv rfl rfl (by first | rfl | simp)) rfl rfl (by first | rfl | simp) h133 fun b131 c132 => ?_
      refine go ?_;intros
      cases h148
      exact k_cn ⟨_, _, _, _, _, _, _, _, pin, pinh⟩
     replace h148 := itf h148 c
     try rw [c]
     refine go ?_;intros
     cases h148
     exact k_cn ⟨_, _, _, _, _, _, _, _, pin, pinh⟩
    rintro t o ⟨b134, b135, c136, b137, c138, b140, c141, b142, pq1, pq2⟩
    refine pinned pq1 pq2 ?_
    refine go ?_;intros
    exact k_ln2 _ (Nat.lt_succ_self _) ⟨_, _, _, _, _, _, _, _, _, _, _, h147, rfl, pin, pinh⟩
   replace h147 := itf h147 c
   try rw [c]
   refine go ?_;intros
   cases h147
   exact k_cn ⟨_, _, pin, pinh⟩
 rintro t o ⟨b145, c146, pq1, pq2⟩
 refine pinnedQ pq1 pq2 ?_
 refine go ?_;intros
 cases h
 exact r_end
end Go.Proofs.AM
