/- Lemmas of the proof (KNF8), on an abstract machine. Conditions: none. -/
import Derived.Test.YtknajiljcemblabGreatKND
set_option linter.unusedVariables false
set_option linter.unusedSimpArgs false
set_option maxRecDepth 100000
set_option maxHeartbeats 4000000
namespace Go.Proofs.AM
attribute [local irreducible] vwp vstps vstpLs vstp vdo vret kseq kblk kloop kend kcut kloop2 frzV renV shutK pfzV trnV unrV
theorem d_az9 {G : Gam} (H_bb9 : Has G c_bb9) (a0 : Feat) (r : Feat) (h : gf_az9 a0 = some r) : Does G if_az9 ks_az9 (c_az9.args (a0)) [] (c_az9.ans (a0) r) := by
 refine does_pn (L := [(0, .agg [.v (.string a0.id), .v (.int .i64 a0.shape.kind), .ro (List.map ePt a0.shape.pts), .ro (List.map eTag a0.tags)])]) (fun bs => pin) fun bs t o => ?_
 show vwp _ ib_az9 _ _
 unfold ib_az9
 refine w_ir ?_
 unfold gf_az9 at h
 obtain ⟨x3, h4, h⟩ := bnd h
 refine go ?_;intros
 refine c_call (c := c_bb9) (a0.shape) H_bb9 h4 fun ch => ?_
 obtain ⟨h10, h⟩ := gd h
 refine go ?_;intros
 refine r_app (f := eTag) (xs := ([] : (List Tag))) (ys := a0.tags) rfl (src_ro (fun _ => rfl) (fun _ => rfl)) rfl rfl (by first | rfl | simp) h10 fun b8 c9 => ?_
 refine go ?_;intros
 cases h
 exact r_end
theorem d_bc9 {G : Gam} (H_az9 : Has G c_az9) (a0 : (List Feat)) (r : (List Feat)) (h : gf_bc9 a0 = some r) : Does G if_bc9 ks_bc9 (c_bc9.args (a0)) [] (c_bc9.ans (a0) r) := by
 refine does_pn (L := [(0, .ro (List.map (eFeat false) a0))]) (fun bs => pin) fun bs t o => ?_
 show vwp _ ib_bc9 _ _
 unfold ib_bc9
 refine w_ir ?_
 unfold gf_bc9 at h
 obtain ⟨hf60, h⟩ := gd h
 obtain ⟨q47, h75, h⟩ := bnd h
 refine go ?_;intros
 refine w_last (fun t o => ∃ b73 c74, Pin t (ovr [(3, .ref 48 b73 c74 0 q47.length 100)] t) ∧ PinH o (ovh [(48, ent b73 c74 100 (List.map (eFeat true) q47))] o)) ?_ ?_
 ·refine w_loop2 (fun n t o => ∃ l54 k52 v49 b50 c51, gl_bc9_1 l54 k52 v49 = some q47 ∧ n = l54.length ∧ (a0).drop k52 = l54 ∧ Pin t (ovr [(3, .ref 48 b50 c51 0 v49.length 100), (7, .ro (List.map (eFeat false) a0)), (8, .v (.int .i64 (a0.length : Int))), (9, .v (.int .i64 (k52 : Int)))] t) ∧ PinH o (ovh [(48, ent b50 c51 100 (List.map (eFeat true) v49))] o)) _ ⟨_, _, _, _, _, h75, rfl, rfl, pin, pinh⟩ ?_
  rintro n t o ⟨l54, k52, v49, b50, c51, h75, rfl, hd55, pq1, pq2⟩
  refine pinned pq1 pq2 ?_
  cases l54 with
  | nil =>
   have hge57 := drop_ge hd55
   rw [gl_bc9_1] at h75
   refine go ?_;intros
   rw [hge57]
   refine go ?_;intros
   cases h75
   exact k_cn ⟨_, _, pin, pinh⟩
  | cons x53 l54 =>
   have hlt56 := drop_lt hd55
   have hx58 := drop_ix hd55
   have hw59 := drop_wr hd55 hf60
   rw [gl_bc9_1] at h75
   refine go ?_;intros
   rw [hlt56]
   refine go ?_;intros
   refine r_iro rfl rfl hx58 rfl ?_
   obtain ⟨x62, h63, h75⟩ := bnd h75
   refine go ?_;intros
   refine c_call (c := c_az9) (x53) H_az9 h63 fun ch => ?_
   refine go ?_;intros
   try simp only [take_map_len, take_ent]
   obtain ⟨h71, h75⟩ := gd h75
   refine go ?_;intros
   refine r_app (f := (eFeat true)) (xs := v49) (ys := ([x62] : (List Feat))) rfl (src_mv rfl rfl (by first | rfl | simp)) rfl rfl (by first | rfl | simp) h71 fun b69 c70 => ?_
   refine go ?_;intros
   rw [hw59]
   exact k_ln2 _ (Nat.lt_succ_self _) ⟨_, _, _, _, _, h75, rfl, drop_next hd55, pin, pinh⟩
 rintro t o ⟨b73, c74, pq1, pq2⟩
 refine pinnedQ pq1 pq2 ?_
 refine go ?_;intros
 cases h
 exact r_end
theorem d_ay9 {G : Gam} (H_bc9 : Has G c_bc9) (a0 : Commit) (r : Commit) (h : gf_ay9 a0 = some r) : Does G if_ay9 ks_ay9 (c_ay9.args (a0)) [] (c_ay9.ans (a0) r) := by
 refine does_pn (L := [(0, .agg [.ro (List.map eInt a0.up), .ro (List.map (eFeat false) a0.sheet), .v (.string a0.note)])]) (fun bs => pin) fun bs t o => ?_
 show vwp _ ib_ay9 _ _
 unfold ib_ay9
 refine w_ir ?_
 unfold gf_ay9 at h
 obtain ⟨h6, h⟩ := gd h
 refine go ?_;intros
 refine r_app (f := eInt) (xs := ([] : (List Int))) (ys := a0.up) rfl (src_ro (fun _ => rfl) (fun _ => rfl)) rfl rfl (by first | rfl | simp) h6 fun b4 c5 => ?_
 obtain ⟨x7, h8, h⟩ := bnd h
 refine go ?_;intros
 refine c_call (c := c_bc9) (a0.sheet) H_bc9 h8 fun ch => ?_
 refine go ?_;intros
 cases h
 exact r_end
theorem d_af9 {G : Gam} (H_bf9 : Has G c_bf9) (H_ap9 : Has G c_ap9) (H_aw9 : Has G c_aw9) (H_ag9 : Has G c_ag9) (H_bh9 : Has G c_bh9) (H_ai9 : Has G c_ai9) (H_am9 : Has G c_am9) (a0 : Repo) (r : Bool) (h : gf_af9 a0 = some r) : Does G if_af9 ks_af9 (c_af9.args (a0)) [] (c_af9.ans (a0) r) := by
 refine does_pn (L := [(0, .agg [.ro (List.map (eCommit false) a0.commits), .ro (List.map eHead a0.heads)])]) (fun bs => pin) fun bs t o => ?_
 show vwp _ ib_af9 _ _
 unfold ib_af9
 refine w_ir ?_
 unfold gf_af9 at h
 obtain ⟨x2, h3, h⟩ := bnd h
 refine go ?_;intros
 refine c_call (c := c_bf9) ((a0.commits.length : Int), 1, 14) H_bf9 h3 fun ch => ?_
 refine go ?_;intros
 refine s_split rfl (fun c => ?_) (fun c => ?_)
 ·replace h := itt h c
  rw [c]
  refine go ?_;intros
  cases h
  exact r_end
 replace h := itf h c
 rw [c]
 obtain ⟨x4, h5, h⟩ := bnd h
 refine go ?_;intros
 refine c_call (c := c_bf9) ((a0.heads.length : Int), 1, 4) H_bf9 h5 fun ch => ?_
 refine go ?_;intros
 refine w_cond rfl (fun c => ?_) (fun c => ?_)
 ·replace h := itt h c
  try rw [c]
  refine go ?_;intros
  cases h
  exact r_end
 replace h := itf h c
 try rw [c]
 obtain ⟨hf197, h⟩ := gd h
 obtain ⟨q186, h305, h⟩ := bnd h
 refine go ?_;intros
 refine w_last (fun t o => ∃ q186_, q186 = .inr q186_ ∧ ∃ b255, Pin t (ovr [(1, .ptr 8 b255 210 0 0)] t) ∧ PinH o (ovh [(8, ⟨b255, 1, 210, true, [[.sl false 3 (List.map (eCommit false) a0.commits), .sl false 2 (List.map eHead a0.heads)]]⟩)] o)) ?_ ?_
 ·refine w_loop2 (fun n t o => ∃ l191 k189  b188, gl_af9_4 a0 l191 k189  = some q186 ∧ n = l191.length ∧ (a0.commits).drop k189 = l191 ∧ Pin t (ovr [(1, .ptr 8 b188 210 0 0), (22, .ro (List.map (eCommit false) a0.commits)), (23, .v (.int .i64 (a0.commits.length : Int))), (24, .v (.int .i64 (k189 : Int)))] t) ∧ PinH o (ovh [(8, ⟨b188, 1, 210, true, [[.sl false 3 (List.map (eCommit false) a0.commits), .sl false 2 (List.map eHead a0.heads)]]⟩)] o)) _ ⟨_, _, _, h305, rfl, rfl, pin, pinh⟩ ?_
  rintro n t o ⟨l191, k189, b188, h305, rfl, hd192, pq1, pq2⟩
  refine pinned pq1 pq2 ?_
  cases l191 with
  | nil =>
   have hge194 := drop_ge hd192
   rw [gl_af9_4] at h305
   refine go ?_;intros
   rw [hge194]
   refine go ?_;intros
   cases h305
   exact k_cn ⟨_, rfl, _, pin, pinh⟩
  | cons x190 l191 =>
   have hlt193 := drop_lt hd192
   have hx195 := drop_ix hd192
   have hw196 := drop_wr hd192 hf197
   rw [gl_af9_4] at h305
   refine go ?_;intros
   rw [hlt193]
   refine go ?_;intros
   refine r_iro rfl rfl hx195 rfl ?_
   obtain ⟨x199, h200, h305⟩ := bnd h305
   refine go ?_;intros
   refine c_call (c := c_ap9) (x190.sheet) H_ap9 h200 fun ch => ?_
   refine go ?_;intros
   refine s_split rfl (fun c => ?_) (fun c => ?_)
   ·replace h305 := itt h305 c
    rw [c]
    refine go ?_;intros
    cases h305
    replace h : some _ = some _ := h
    cases h
    exact r_end
   replace h305 := itf h305 c
   rw [c]
   obtain ⟨x201, h202, h305⟩ := bnd h305
   refine go ?_;intros
   refine c_call (c := c_aw9) (x190.note) H_aw9 h202 fun ch => ?_
   refine go ?_;intros
   refine s_split rfl (fun c => ?_) (fun c => ?_)
   ·replace h305 := itt h305 c
    rw [c]
    refine go ?_;intros
    cases h305
    replace h : some _ = some _ := h
    cases h
    exact r_end
   replace h305 := itf h305 c
   rw [c]
   obtain ⟨x203, h204, h305⟩ := bnd h305
   refine go ?_;intros
   refine c_call (c := c_ag9) (a0, x190) H_ag9 h204 fun ch => ?_
   refine go ?_;intros
   refine s_split rfl (fun c => ?_) (fun c => ?_)
   ·replace h305 := itt h305 c
    rw [c]
    refine go ?_;intros
    cases h305
    replace h : some _ = some _ := h
    cases h
    exact r_end
   replace h305 := itf h305 c
   rw [c]
   refine go ?_;intros
   refine s_split rfl (fun c => ?_) (fun c => ?_)
   ·replace h305 := itt h305 (by first | exact c | (have c2 := c; simp only [List.length_map] at c2; exact c2))
    rw [c]
    refine go ?_;intros
    cases h305
    replace h : some _ = some _ := h
    cases h
    exact r_end
   replace h305 := itf h305 (by first | exact c | (have c2 := c; simp only [List.length_map] at c2; exact c2))
   rw [c]
   refine go ?_;intros
   refine w_cond rfl (fun c => ?_) (fun c => ?_)
   ·replace h305 := itt h305 (by first | exact c | (have c2 := c; simp only [List.length_map] at c2; exact c2))
    try rw [c]
    refine go ?_;intros
    cases h305
    replace h : some _ = some _ := h
    cases h
    exact r_end
   replace h305 := itf h305 (by first | exact c | (have c2 := c; simp only [List.length_map] at c2; exact c2))
   try rw [c]
   obtain ⟨hf246, h305⟩ := gd h305
   obtain ⟨q234, h306, h305⟩ := bnd h305
   refine go ?_;intros
   refine w_last (fun t o => ∃ q234_, q234 = .inr q234_ ∧ ∃ b253 b254, Pin t (ovr [(1, .ptr 8 b253 210 0 0), (22, .ro (List.map (eCommit false) a0.commits)), (23, .v (.int .i64 (a0.commits.length : Int))), (24, .v (.int .i64 (k189 : Int))), (34, .ptr 32 b254 115 0 2), (35, .v (.string x190.note)), (36, .v (.bool x201)), (37, .v (.bool false)), (40, .agg [.ro (List.map (eCommit false) a0.commits), .ro (List.map eHead a0.heads)]), (41, .agg [.ro (List.map eInt x190.up), .ro (List.map (eFeat false) x190.sheet), .v (.string x190.note)]), (42, .v (.int .i64 x203)), (43, .v (.int .i64 (k189 : Int))), (44, .v (.bool false)), (47, .v (.int .i64 (k189 : Int))), (48, .v (.bool ((k189 : Int) == 0))), (49, .ptr 32 b254 115 0 0), (50, .ro (List.map eInt x190.up)), (51, .v (.int .i64 (x190.up.length : Int))), (52, .v (.bool ((x190.up.length : Int) == 0))), (53, .v (.bool false)), (56, .ptr 32 b254 115 0 0), (57, .ro (List.map eInt x190.up)), (58, .v (.int .i64 (x190.up.length : Int))), (59, .v (.bool false))] t) ∧ PinH o (ovh [(8, ⟨b253, 1, 210, true, [[.sl false 3 (List.map (eCommit false) a0.commits), .sl false 2 (List.map eHead a0.heads)]]⟩), (32, ⟨b254, 1, 115, true, [[.sl false 1 (List.map eInt x190.up), .sl false 4 (List.map (eFeat false) x190.sheet), .v (.string x190.note)]]⟩)] o)) ?_ ?_
   ·refine w_loop2 (fun n t o => ∃ l240 k238  b236 b237, gl_af9_5 k189 x190 l240 k238  = some q234 ∧ n = l240.length ∧ (x190.up).drop k238 = l240 ∧ Pin t (ovr [(1, .ptr 8 b236 210 0 0), (3, .v (.int .i64 (k189 : Int))), (4, .ptr 32 b237 115 0 0), (22, .ro (List.map (eCommit false) a0.commits)), (23, .v (.int .i64 (a0.commits.length : Int))), (24, .v (.int .i64 (k189 : Int))), (34, .ptr 32 b237 115 0 2), (35, .v (.string x190.note)), (36, .v (.bool x201)), (37, .v (.bool false)), (40, .agg [.ro (List.map (eCommit false) a0.commits), .ro (List.map eHead a0.heads)]), (41, .agg [.ro (List.map eInt x190.up), .ro (List.map (eFeat false) x190.sheet), .v (.string x190.note)]), (42, .v (.int .i64 x203)), (43, .v (.int .i64 (k189 : Int))), (44, .v (.bool false)), (47, .v (.int .i64 (k189 : Int))), (48, .v (.bool ((k189 : Int) == 0))), (49, .ptr 32 b237 115 0 0), (50, .ro (List.map eInt x190.up)), (51, .v (.int .i64 (x190.up.length : Int))), (52, .v (.bool ((x190.up.length : Int) == 0))), (53, .v (.bool false)), (56, .ptr 32 b237 115 0 0), (57, .ro (List.map eInt x190.up)), (58, .v (.int .i64 (x190.up.length : Int))), (59, .v (.bool false)), (62, .ro (List.map eInt x190.up)), (63, .v (.int .i64 (x190.up.length : Int))), (64, .v (.int .i64 (k238 : Int)))] t) ∧ PinH o (ovh [(8, ⟨b236, 1, 210, true, [[.sl false 3 (List.map (eCommit false) a0.commits), .sl false 2 (List.map eHead a0.heads)]]⟩), (32, ⟨b237, 1, 115, true, [[.sl false 1 (List.map eInt x190.up), .sl false 4 (List.map (eFeat false) x190.sheet), .v (.string x190.note)]]⟩)] o)) _ ⟨_, _, _, _, h306, rfl, rfl, pin, pinh⟩ ?_
    rintro n t o ⟨l240, k238, b236, b237, h306, rfl, hd241, pq1, pq2⟩
    refine pinned pq1 pq2 ?_
    cases l240 with
    | nil =>
     have hge243 := drop_ge hd241
     rw [gl_af9_5] at h306
     refine go ?_;intros
     rw [hge243]
     refine go ?_;intros
     cases h306
     exact k_cn ⟨_, rfl, _, _, pin, pinh⟩
    | cons x239 l240 =>
     have hlt242 := drop_lt hd241
     have hx244 := drop_ix hd241
     have hw245 := drop_wr hd241 hf246
     rw [gl_af9_5] at h306
     refine go ?_;intros
     rw [hlt242]
     refine go ?_;intros
     refine r_iro rfl rfl hx244 rfl ?_
     obtain ⟨x247, h248, h306⟩ := bnd h306
     refine go ?_;intros
     refine c_call (c := c_bf9) (x239, 0, (IntKind.i64.wrap ((k189 : Int) - 1))) H_bf9 h248 fun ch => ?_
     refine go ?_;intros
     refine s_split rfl (fun c => ?_) (fun c => ?_)
     ·replace h306 := itt h306 c
      rw [c]
      refine go ?_;intros
      cases h306
      replace h305 : some _ = some _ := h305
      cases h305
      replace h : some _ = some _ := h
      cases h
      exact r_end
     replace h306 := itf h306 c
     rw [c]
     obtain ⟨x249, h250, h306⟩ := bnd h306
     refine go ?_;intros
     refine r_sls (f := eInt) rfl rfl rfl h250 (fun _ => rfl) ?_
     obtain ⟨x251, h252, h306⟩ := bnd h306
     refine go ?_;intros
     refine c_call (c := c_bh9) (x249, x239) H_bh9 h252 fun ch => ?_
     refine go ?_;intros
     refine w_cond rfl (fun c => ?_) (fun c => ?_)
     ·replace h306 := itt h306 c
      try rw [c]
      refine go ?_;intros
      cases h306
      replace h305 : some _ = some _ := h305
      cases h305
      replace h : some _ = some _ := h
      cases h
      exact r_end
     replace h306 := itf h306 c
     try rw [c]
     refine go ?_;intros
     rw [hw245]
     exact k_ln2 _ (Nat.lt_succ_self _) ⟨_, _, _, _, h306, rfl, drop_next hd241, pin, pinh⟩
   rintro t o ⟨q234, rfl, b253, b254, pq1, pq2⟩
   refine pinnedQ pq1 pq2 ?_
   refine go ?_;intros
   rw [hw196]
   exact k_ln2 _ (Nat.lt_succ_self _) ⟨_, _, _, h305, rfl, drop_next hd192, pin, pinh⟩
 rintro t o ⟨q186, rfl, b255, pq1, pq2⟩
 refine pinnedQ pq1 pq2 ?_
 obtain ⟨hf297, h⟩ := gd h
 obtain ⟨q286, h307, h⟩ := bnd h
 refine go ?_;intros
 refine w_last (fun t o => ∃ q286_, q286 = .inr q286_ ∧ Pin t (ovr [] t) ∧ PinH o (ovh [] o)) ?_ ?_
 ·refine w_loop2 (fun n t o => ∃ l291 k289  b288, gl_af9_6 a0 l291 k289  = some q286 ∧ n = l291.length ∧ (a0.heads).drop k289 = l291 ∧ Pin t (ovr [(1, .ptr 8 b288 210 0 0), (85, .ro (List.map eHead a0.heads)), (86, .v (.int .i64 (a0.heads.length : Int))), (87, .v (.int .i64 (k289 : Int)))] t) ∧ PinH o (ovh [(8, ⟨b288, 1, 210, true, [[.sl false 3 (List.map (eCommit false) a0.commits), .sl false 2 (List.map eHead a0.heads)]]⟩)] o)) _ ⟨_, _, _, h307, rfl, rfl, pin, pinh⟩ ?_
  rintro n t o ⟨l291, k289, b288, h307, rfl, hd292, pq1, pq2⟩
  refine pinned pq1 pq2 ?_
  cases l291 with
  | nil =>
   have hge294 := drop_ge hd292
   rw [gl_af9_6] at h307
   refine go ?_;intros
   rw [hge294]
   refine go ?_;intros
   cases h307
   exact k_cn ⟨_, rfl, pin, pinh⟩
  | cons x290 l291 =>
   have hlt293 := drop_lt hd292
   have hx295 := drop_ix hd292
   have hw296 := drop_wr hd292 hf297
   rw [gl_af9_6] at h307
   refine go ?_;intros
   rw [hlt293]
   refine go ?_;intros
   refine r_iro rfl rfl hx295 rfl ?_
   obtain ⟨x299, h300, h307⟩ := bnd h307
   refine go ?_;intros
   refine c_call (c := c_aw9) (x290.name) H_aw9 h300 fun ch => ?_
   refine go ?_;intros
   refine s_split rfl (fun c => ?_) (fun c => ?_)
   ·replace h307 := itt h307 c
    rw [c]
    refine go ?_;intros
    cases h307
    replace h : some _ = some _ := h
    cases h
    exact r_end
   replace h307 := itf h307 c
   rw [c]
   obtain ⟨x301, h302, h307⟩ := bnd h307
   refine go ?_;intros
   refine c_call (c := c_ai9) (a0, x290.name) H_ai9 h302 fun ch => ?_
   refine go ?_;intros
   refine s_split rfl (fun c => ?_) (fun c => ?_)
   ·replace h307 := itt h307 c
    rw [c]
    refine go ?_;intros
    cases h307
    replace h : some _ = some _ := h
    cases h
    exact r_end
   replace h307 := itf h307 c
   rw [c]
   obtain ⟨x303, h304, h307⟩ := bnd h307
   refine go ?_;intros
   refine c_call (c := c_am9) (a0, x290.at_) H_am9 h304 fun ch => ?_
   refine go ?_;intros
   refine w_cond rfl (fun c => ?_) (fun c => ?_)
   ·replace h307 := itt h307 c
    try rw [c]
    refine go ?_;intros
    cases h307
    replace h : some _ = some _ := h
    cases h
    exact r_end
   replace h307 := itf h307 c
   try rw [c]
   refine go ?_;intros
   rw [hw296]
   exact k_ln2 _ (Nat.lt_succ_self _) ⟨_, _, _, h307, rfl, drop_next hd292, pin, pinh⟩
 rintro t o ⟨q286, rfl, pq1, pq2⟩
 refine pinnedQ pq1 pq2 ?_
 refine go ?_;intros
 cases h
 exact r_end
theorem d_ak9 {G : Gam}  (a0 : Repo) (a1 : Int) (r : (List Bool)) (h : gf_ak9 a0 a1 = some r) : Does G if_ak9 ks_ak9 (c_ak9.args (a0, a1)) [] (c_ak9.ans (a0, a1) r) := by
 refine does_pn (L := [(0, .agg [.ro (List.map (eCommit false) a0.commits), .ro (List.map eHead a0.heads)]), (1, .v (.int .i64 a1))]) (fun bs => pin) fun bs t o => ?_
 show vwp _ ib_ak9 _ _
 unfold ib_ak9
 refine w_ir ?_
 unfold gf_ak9 at h
 obtain ⟨h4, h⟩ := gd h
 refine go ?_;intros
 refine r_mks (f := eBool) (x := false) rfl rfl (band1 h4) (band2 h4) rfl fun b2 => ?_
 obtain ⟨x5, h6, h⟩ := bnd h
 refine go ?_;intros
 refine r_ire (xs := (List.replicate ((a0.commits.length : Int)).toNat false)) rfl rfl h6 rfl ?_
 refine go ?_;intros
 refine c_ste (f := eBool) (List.replicate ((a0.commits.length : Int)).toNat false) true (idx_get h6).2 ?_
 obtain ⟨q150, h205, h⟩ := bnd h
 refine go ?_;intros
 refine w_last (fun t o => ∃ b203 c204, Pin t (ovr [(5, .ref 96 b203 c204 0 q150.length 33)] t) ∧ PinH o (ovh [(96, ent b203 c204 33 (List.map eBool q150))] o)) ?_ ?_
 ·refine w_loop2 (fun n t o => ∃ n156 v151 v153 b152 b154 c155, gl_ak9_4 a0 n156 v151 v153 = some q150 ∧ n156 = n ∧ Pin t (ovr [(2, .ptr 16 b152 210 0 0), (5, .ref 96 b154 c155 0 v153.length 33), (6, .v (.int .i64 v151))] t) ∧ PinH o (ovh [(16, ⟨b152, 1, 210, true, [[.sl false 3 (List.map (eCommit false) a0.commits), .sl false 2 (List.map eHead a0.heads)]]⟩), (96, ent b154 c155 33 (List.map eBool v153))] o)) _ ⟨_, _, _, _, _, _, h205, rfl, pin, pinh⟩ ?_
  rintro n t o ⟨n156, v151, v153, b152, b154, c155, h205, rfl, pq1, pq2⟩
  refine pinned pq1 pq2 ?_
  cases n156 with
  | zero => rw [gl_ak9_4] at h205; cases h205
  | succ n156 =>
   rw [gl_ak9_4] at h205
   refine go ?_;intros
   refine w_cond rfl (fun c => ?_) (fun c => ?_)
   ·replace h205 := itt h205 c
    try rw [c]
    obtain ⟨x157, h158, h205⟩ := bnd h205
    refine go ?_;intros
    refine r_ire (xs := v153) rfl rfl h158 rfl ?_
    refine go ?_;intros
    refine r_lde (f := eBool) (xs := v153) (x := x157) rfl rfl (idx_get h158).2 rfl rfl rfl ?_
    refine go ?_;intros
    refine w_cond rfl (fun c => ?_) (fun c => ?_)
    ·replace h205 := itt h205 c
     try rw [c]
     obtain ⟨x159, h160, h205⟩ := bnd h205
     refine go ?_;intros
     refine r_iro rfl rfl h160 rfl ?_
     obtain ⟨hf195, h205⟩ := gd h205
     obtain ⟨q181, h206, h205⟩ := bnd h205
     refine go ?_;intros
     refine w_last (fun t o => ∃ b198 b200 c201, Pin t (ovr [(2, .ptr 16 b198 210 0 0), (5, .ref 96 b200 c201 0 q181.length 33), (6, .v (.int .i64 v151))] t) ∧ PinH o (ovh [(16, ⟨b198, 1, 210, true, [[.sl false 3 (List.map (eCommit false) a0.commits), .sl false 2 (List.map eHead a0.heads)]]⟩), (96, ent b200 c201 33 (List.map eBool q181))] o)) ?_ ?_
     ·refine w_loop2 (fun n t o => ∃ l189 k187 v184 b183 b185 c186, gl_ak9_5 l189 k187 v184 = some q181 ∧ n = l189.length ∧ (x159.up).drop k187 = l189 ∧ Pin t (ovr [(2, .ptr 16 b183 210 0 0), (5, .ref 96 b185 c186 0 v184.length 33), (6, .v (.int .i64 v151)), (30, .ro (List.map eInt x159.up)), (31, .v (.int .i64 (x159.up.length : Int))), (32, .v (.int .i64 (k187 : Int)))] t) ∧ PinH o (ovh [(16, ⟨b183, 1, 210, true, [[.sl false 3 (List.map (eCommit false) a0.commits), .sl false 2 (List.map eHead a0.heads)]]⟩), (96, ent b185 c186 33 (List.map eBool v184))] o)) _ ⟨_, _, _, _, _, _, h206, rfl, rfl, pin, pinh⟩ ?_
      rintro n t o ⟨l189, k187, v184, b183, b185, c186, h206, rfl, hd190, pq1, pq2⟩
      refine pinned pq1 pq2 ?_
      cases l189 with
      | nil =>
       have hge192 := drop_ge hd190
       rw [gl_ak9_5] at h206
       refine go ?_;intros
       rw [hge192]
       refine go ?_;intros
       cases h206
       exact k_cn ⟨_, _, _, pin, pinh⟩
      | cons x188 l189 =>
       have hlt191 := drop_lt hd190
       have hx193 := drop_ix hd190
       have hw194 := drop_wr hd190 hf195
       rw [gl_ak9_5] at h206
       refine go ?_;intros
       rw [hlt191]
       refine go ?_;intros
       refine r_iro rfl rfl hx193 rfl ?_
       obtain ⟨x196, h197, h206⟩ := bnd h206
       refine go ?_;intros
       refine r_ire (xs := v184) rfl rfl h197 rfl ?_
       refine go ?_;intros
       refine c_ste (f := eBool) v184 true (idx_get h197).2 ?_
       refine go ?_;intros
       rw [hw194]
       exact k_ln2 _ (Nat.lt_succ_self _) ⟨_, _, _, _, _, _, h206, rfl, drop_next hd190, pin, pinh⟩
     rintro t o ⟨b198, b200, c201, pq1, pq2⟩
     refine pinnedQ pq1 pq2 ?_
     refine go ?_;intros
     exact k_ln2 _ (Nat.lt_succ_self _) ⟨_, _, _, _, _, _, h205, rfl, pin, pinh⟩
    replace h205 := itf h205 c
    try rw [c]
    refine go ?_;intros
    exact k_ln2 _ (Nat.lt_succ_self _) ⟨_, _, _, _, _, _, h205, rfl, pin, pinh⟩
   replace h205 := itf h205 c
   try rw [c]
   refine go ?_;intros
   cases h205
   exact k_cn ⟨_, _, pin, pinh⟩
 rintro t o ⟨b203, c204, pq1, pq2⟩
 refine pinnedQ pq1 pq2 ?_
 refine go ?_;intros
 cases h
 exact r_end
theorem d_ba9 {G : Gam} (H_ay9 : Has G c_ay9) (a0 : Repo) (r : Repo) (h : gf_ba9 a0 = some r) : Does G if_ba9 ks_ba9 (c_ba9.args (a0)) [] (c_ba9.ans (a0) r) := by
 refine does_pn (L := [(0, .agg [.ro (List.map (eCommit false) a0.commits), .ro (List.map eHead a0.heads)])]) (fun bs => pin) fun bs t o => ?_
 show vwp _ ib_ba9 _ _
 unfold ib_ba9
 refine w_ir ?_
 unfold gf_ba9 at h
 obtain ⟨h7, h⟩ := gd h
 refine go ?_;intros
 refine r_app (f := eHead) (xs := ([] : (List Head))) (ys := a0.heads) rfl (src_ro (fun _ => rfl) (fun _ => rfl)) rfl rfl (by first | rfl | simp) h7 fun b5 c6 => ?_
 obtain ⟨hf91, h⟩ := gd h
 obtain ⟨q70, h114, h⟩ := bnd h
 refine go ?_;intros
 refine w_last (fun t o => ∃ b103 c104 b105 c106 b107 b109 c110 b111 c112 b113, Pin t (ovr [(2, .ptr 16 b107 210 0 0), (3, .ptr 24 b113 210 0 0)] t) ∧ PinH o (ovh [(1000256, ent b103 c104 115 (List.map (eCommit true) [])), (1000257, ent b105 c106 130 (List.map eHead [])), (16, ⟨b107, 1, 210, true, [[.al 1000256 b103 c104 0 ([] : List Commit).length 115, .al 1000257 b105 c106 0 ([] : List Head).length 130]]⟩), (1000384, ent b109 c110 115 (List.map (eCommit true) q70)), (1000385, ent b111 c112 130 (List.map eHead ([] ++ a0.heads))), (24, ⟨b113, 1, 210, true, [[.al 1000384 b109 c110 0 q70.length 115, .al 1000385 b111 c112 0 ([] ++ a0.heads).length 130]]⟩)] o)) ?_ ?_
 ·refine w_loop2 (fun n t o => ∃ l85 k83 v77 b72 c73 b74 c75 b76 b78 c79 b80 c81 b82, gl_ba9_1 l85 k83 v77 = some q70 ∧ n = l85.length ∧ (a0.commits).drop k83 = l85 ∧ Pin t (ovr [(2, .ptr 16 b76 210 0 0), (3, .ptr 24 b82 210 0 0), (13, .ro (List.map (eCommit false) a0.commits)), (14, .v (.int .i64 (a0.commits.length : Int))), (15, .v (.int .i64 (k83 : Int)))] t) ∧ PinH o (ovh [(1000256, ent b72 c73 115 (List.map (eCommit true) [])), (1000257, ent b74 c75 130 (List.map eHead [])), (16, ⟨b76, 1, 210, true, [[.al 1000256 b72 c73 0 ([] : List Commit).length 115, .al 1000257 b74 c75 0 ([] : List Head).length 130]]⟩), (1000384, ent b78 c79 115 (List.map (eCommit true) v77)), (1000385, ent b80 c81 130 (List.map eHead ([] ++ a0.heads))), (24, ⟨b82, 1, 210, true, [[.al 1000384 b78 c79 0 v77.length 115, .al 1000385 b80 c81 0 ([] ++ a0.heads).length 130]]⟩)] o)) _ ⟨_, _, _, _, _, _, _, _, _, _, _, _, _, h114, rfl, rfl, pin, pinh⟩ ?_
  rintro n t o ⟨l85, k83, v77, b72, c73, b74, c75, b76, b78, c79, b80, c81, b82, h114, rfl, hd86, pq1, pq2⟩
  refine pinned pq1 pq2 ?_
  cases l85 with
  | nil =>
   have hge88 := drop_ge hd86
   rw [gl_ba9_1] at h114
   refine go ?_;intros
   rw [hge88]
   refine go ?_;intros
   cases h114
   exact k_cn ⟨_, _, _, _, _, _, _, _, _, _, pin, pinh⟩
  | cons x84 l85 =>
   have hlt87 := drop_lt hd86
   have hx89 := drop_ix hd86
   have hw90 := drop_wr hd86 hf91
   rw [gl_ba9_1] at h114
   refine go ?_;intros
   rw [hlt87]
   refine go ?_;intros
   refine r_iro rfl rfl hx89 rfl ?_
   obtain ⟨x93, h94, h114⟩ := bnd h114
   refine go ?_;intros
   refine c_call (c := c_ay9) (x84) H_ay9 h94 fun ch => ?_
   refine go ?_;intros
   try simp only [take_map_len, take_ent]
   obtain ⟨h102, h114⟩ := gd h114
   refine go ?_;intros
   refine r_app (f := (eCommit true)) (xs := v77) (ys := ([x93] : (List Commit))) rfl (src_mv rfl rfl (by first | rfl | simp)) rfl rfl (by first | rfl | simp) h102 fun b100 c101 => ?_
   refine go ?_;intros
   rw [hw90]
   exact k_ln2 _ (Nat.lt_succ_self _) ⟨_, _, _, _, _, _, _, _, _, _, _, _, _, h114, rfl, drop_next hd86, pin, pinh⟩
 rintro t o ⟨b103, c104, b105, c106, b107, b109, c110, b111, c112, b113, pq1, pq2⟩
 refine pinnedQ pq1 pq2 ?_
 refine go ?_;intros
 cases h
 exact r_end
theorem d_al9 {G : Gam} (H_ag9 : Has G c_ag9) (H_ay9 : Has G c_ay9) (a0 : Repo) (a1 : Int) (a2 : Commit) (r : (Bool × Repo)) (h : gf_al9 a0 a1 a2 = some r) : Does G if_al9 ks_al9 (c_al9.args (a0, a1, a2)) (c_al9.ins (a0, a1, a2)) (c_al9.ans (a0, a1, a2) r) := by
 refine does_pg (L := fun bs => [(0, .ptr 0 (bs 0).1 210 0 0), (1, .v (.int .i64 a1)), (2, .agg [.ro (List.map eInt a2.up), .ro (List.map (eFeat false) a2.sheet), .v (.string a2.note)])]) (H := fun bs => [(0, ⟨(bs 0).1, (bs 0).2, 210, true, [[.sl true 115 (List.map (eCommit true) a0.commits), .sl true 130 (List.map eHead a0.heads)]]⟩)]) (fun bs => pin) (fun bs => pinh) fun bs t o => ?_
 show vwp _ ib_al9 _ _
 unfold ib_al9
 refine w_ir ?_
 unfold gf_al9 at h
 refine go ?_;intros
 simp only [List.length_map]
 obtain ⟨x6, h7, h⟩ := bnd h
 refine go ?_;intros
 refine c_call (c := c_ag9) (a0, a2) H_ag9 h7 fun ch => ?_
 refine go ?_;intros
 refine w_cond rfl (fun c => ?_) (fun c => ?_)
 ·replace h := itt h c
  try rw [c]
  refine go ?_;intros
  refine w_cond rfl (fun c => ?_) (fun c => ?_)
  ·replace h := itt h (by first | exact c | (have c2 := c; simp only [List.length_map] at c2; exact c2))
   try rw [c]
   refine go ?_;intros
   cases h
   exact r_endg
  replace h := itf h (by first | exact c | (have c2 := c; simp only [List.length_map] at c2; exact c2))
  try rw [c]
  obtain ⟨x8, h9, h⟩ := bnd h
  refine go ?_;intros
  refine c_call (c := c_ay9) (a2) H_ay9 h9 fun ch => ?_
  refine go ?_;intros
  try simp only [take_map_len, take_ent]
  obtain ⟨h17, h⟩ := gd h
  refine go ?_;intros
  refine r_app (f := (eCommit true)) (xs := a0.commits) (ys := ([x8] : (List Commit))) rfl (src_mv rfl rfl (by first | rfl | simp)) rfl rfl (by first | rfl | simp) h17 fun b15 c16 => ?_
  obtain ⟨x18, h19, h⟩ := bnd h
  refine go ?_;intros
  refine r_ire (xs := a0.heads) rfl rfl h19 rfl ?_
  refine go ?_;intros
  refine c_ste (f := eHead) a0.heads (⟨x18.name, (a0.commits.length : Int)⟩ : Head) (idx_get h19).2 ?_
  refine go ?_;intros
  cases h
  exact r_endg
 replace h := itf h c
 try rw [c]
 obtain ⟨x20, h21, h⟩ := bnd h
 refine go ?_;intros
 refine r_ire (xs := a0.heads) rfl rfl h21 rfl ?_
 refine go ?_;intros
 refine c_ste (f := eHead) a0.heads (⟨x20.name, x6⟩ : Head) (idx_get h21).2 ?_
 refine go ?_;intros
 cases h
 exact r_endg
theorem d_cl9 {G : Gam} (fuel : Nat) (H_cg9 : Has G c_cg9) (H_cl9 : Has G (c_cl9 fuel)) (a0 : Repo) (a1 : Int) (a2 : Repo) (a3 : Int) (r : Bool) (h : gf_cl9 (fuel + 1) a0 a1 a2 a3 = some r) : Does G if_cl9 ks_cl9 ((c_cl9 (fuel + 1)).args (a0, a1, a2, a3)) [] ((c_cl9 (fuel + 1)).ans (a0, a1, a2, a3) r) := by
 refine does_pn (L := [(0, .agg [.ro (List.map (eCommit false) a0.commits), .ro (List.map eHead a0.heads)]), (1, .v (.int .i64 a1)), (2, .agg [.ro (List.map (eCommit false) a2.commits), .ro (List.map eHead a2.heads)]), (3, .v (.int .i64 a3))]) (fun bs => pin) fun bs t o => ?_
 show vwp _ ib_cl9 _ _
 unfold ib_cl9
 refine w_ir ?_
 replace h : gb_cl9 (gf_cl9 fuel) a0 a1 a2 a3 = some r := h
 unfold gb_cl9 at h
 obtain ⟨x3, h4, h⟩ := bnd h
 refine go ?_;intros
 refine r_iro rfl rfl h4 rfl ?_
 obtain ⟨x6, h7, h⟩ := bnd h
 refine go ?_;intros
 refine r_iro rfl rfl h7 rfl ?_
 refine go ?_;intros
 refine s_split rfl (fun c => ?_) (fun c => ?_)
 ·replace h := itt h c
  rw [c]
  refine go ?_;intros
  cases h
  exact r_end
 replace h := itf h c
 rw [c]
 refine go ?_;intros
 refine s_split rfl (fun c => ?_) (fun c => ?_)
 ·replace h := itt h (by first | exact c | (have c2 := c; simp only [List.length_map] at c2; exact c2))
  rw [c]
  refine go ?_;intros
  cases h
  exact r_end
 replace h := itf h (by first | exact c | (have c2 := c; simp only [List.length_map] at c2; exact c2))
 rw [c]
 obtain ⟨x9, h10, h⟩ := bnd h
 refine go ?_;intros
 refine c_call (c := c_cg9) (x3.sheet, x6.sheet) H_cg9 h10 fun ch => ?_
 refine go ?_;intros
 refine w_cond rfl (fun c => ?_) (fun c => ?_)
 ·replace h := itt h c
  try rw [c]
  refine go ?_;intros
  cases h
  exact r_end
 replace h := itf h c
 try rw [c]
 obtain ⟨hf52, h⟩ := gd h
 obtain ⟨q38, h57, h⟩ := bnd h
 refine go ?_;intros
 refine w_last (fun t o => ∃ q38_, q38 = .inr q38_ ∧ Pin t (ovr [] t) ∧ PinH o (ovh [] o)) ?_ ?_
 ·refine w_loop2 (fun n t o => ∃ l46 k44  b40 b41 b42 b43, gl_cl9_1 x6 (gf_cl9 fuel) a0 a2 l46 k44  = some q38 ∧ n = l46.length ∧ (x3.up).drop k44 = l46 ∧ Pin t (ovr [(4, .ptr 32 b40 210 0 0), (6, .ptr 48 b41 210 0 0), (9, .ptr 72 b42 115 0 0), (10, .ptr 80 b43 115 0 0), (11, .v (.int .i64 (k44 : Int)))] t) ∧ PinH o (ovh [(32, ⟨b40, 1, 210, true, [[.sl false 3 (List.map (eCommit false) a0.commits), .sl false 2 (List.map eHead a0.heads)]]⟩), (48, ⟨b41, 1, 210, true, [[.sl false 3 (List.map (eCommit false) a2.commits), .sl false 2 (List.map eHead a2.heads)]]⟩), (72, ⟨b42, 1, 115, true, [[.sl false 1 (List.map eInt x3.up), .sl false 4 (List.map (eFeat false) x3.sheet), .v (.string x3.note)]]⟩), (80, ⟨b43, 1, 115, true, [[.sl false 1 (List.map eInt x6.up), .sl false 4 (List.map (eFeat false) x6.sheet), .v (.string x6.note)]]⟩)] o)) _ ⟨_, _, _, _, _, _, h57, rfl, rfl, pin, pinh⟩ ?_
  rintro n t o ⟨l46, k44, b40, b41, b42, b43, h57, rfl, hd47, pq1, pq2⟩
  refine pinned pq1 pq2 ?_
  cases l46 with
  | nil =>
   have hge49 := drop_ge hd47
   rw [gl_cl9_1] at h57
   refine go ?_;intros
   rw [hge49]
   refine go ?_;intros
   cases h57
   exact k_cn ⟨_, rfl, pin, pinh⟩
  | cons x45 l46 =>
   have hlt48 := drop_lt hd47
   have hx50 := drop_ix hd47
   have hw51 := drop_wr hd47 hf52
   rw [gl_cl9_1] at h57
   refine go ?_;intros
   rw [hlt48]
   refine go ?_;intros
   refine r_iro rfl rfl hx50 rfl ?_
   obtain ⟨x53, h54, h57⟩ := bnd h57
   refine go ?_;intros
   refine r_iro rfl rfl h54 rfl ?_
   obtain ⟨x55, h56, h57⟩ := bnd h57
   refine go ?_;intros
   refine c_call (c := (c_cl9 fuel)) (a0, x45, a2, x53) H_cl9 h56 fun ch => ?_
   refine go ?_;intros
   refine w_cond rfl (fun c => ?_) (fun c => ?_)
   ·replace h57 := itt h57 c
    try rw [c]
    refine go ?_;intros
    cases h57
    replace h : some _ = some _ := h
    cases h
    exact r_end
   replace h57 := itf h57 c
   try rw [c]
   refine go ?_;intros
   rw [hw51]
   exact k_ln2 _ (Nat.lt_succ_self _) ⟨_, _, _, _, _, _, h57, rfl, drop_next hd47, pin, pinh⟩
 rintro t o ⟨q38, rfl, pq1, pq2⟩
 refine pinnedQ pq1 pq2 ?_
 refine go ?_;intros
 cases h
 exact r_end
end Go.Proofs.AM
