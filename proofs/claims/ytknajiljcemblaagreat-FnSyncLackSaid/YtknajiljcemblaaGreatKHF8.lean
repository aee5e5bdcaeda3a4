/- Lemmas of the proof (KHF8), on an abstract machine. Conditions: none. -/
import Derived.Test.YtknajiljcemblaaGreatKHD
set_option linter.unusedVariables false
set_option linter.unusedSimpArgs false
set_option maxRecDepth 100000
set_option maxHeartbeats 4000000
namespace Go.Proofs.AM
attribute [local irreducible] vwp vstps vstpLs vstp vdo vret kseq kblk kloop kend kcut kloop2 frzV renV shutK pfzV trnV unrV
theorem d_aw9 {G : Gam} (H_ba9 : Has G c_ba9) (a0 : Commit) (r : Commit) (h : gf_aw9 a0 = some r) : Does G if_aw9 ks_aw9 (c_aw9.args (a0)) [] (c_aw9.ans (a0) r) := by
 refine does_pn (L := [(0, .agg [.ro (List.map eInt a0.up), .ro (List.map (eFeat false) a0.sheet), .v (.string a0.note)])]) (fun bs => pin) fun bs t o => ?_
 show vwp _ ib_aw9 _ _
 unfold ib_aw9
 refine w_ir ?_
 unfold gf_aw9 at h
 obtain ⟨h6, h⟩ := gd h
 refine go ?_;intros
 refine r_app (f := eInt) (xs := ([] : (List Int))) (ys := a0.up) rfl (src_ro (fun _ => rfl) (fun _ => rfl)) rfl rfl (by first | rfl | simp) h6 fun b4 c5 => ?_
 obtain ⟨x7, h8, h⟩ := bnd h
 refine go ?_;intros
 refine c_call (c := c_ba9) (a0.sheet) H_ba9 h8 fun ch => ?_
 refine go ?_;intros
 cases h
 exact r_end
theorem d_ad9 {G : Gam} (H_be9 : Has G c_be9) (H_an9 : Has G c_an9) (H_au9 : Has G c_au9) (H_af9 : Has G c_af9) (H_bg9 : Has G c_bg9) (H_ah9 : Has G c_ah9) (H_ak9 : Has G c_ak9) (a0 : Repo) (r : Bool) (h : gf_ad9 a0 = some r) : Does G if_ad9 ks_ad9 (c_ad9.args (a0)) [] (c_ad9.ans (a0) r) := by
 refine does_pn (L := [(0, .agg [.ro (List.map (eCommit false) a0.commits), .ro (List.map eHead a0.heads)])]) (fun bs => pin) fun bs t o => ?_
 show vwp _ ib_ad9 _ _
 unfold ib_ad9
 refine w_ir ?_
 unfold gf_ad9 at h
 obtain ⟨x2, h3, h⟩ := bnd h
 refine go ?_;intros
 refine c_call (c := c_be9) ((a0.commits.length : Int), 1, 14) H_be9 h3 fun ch => ?_
 refine go ?_;intros
 refine s_split rfl (fun c => ?_) (fun c => ?_)
 ·replace h := itt h c
  rw [c]
  refine go ?_;intros
  cases h
  exact r_end
 replace h := itf h c
 rw [c]
 obtain ⟨x4, h5, h⟩ := bnd h
 refine go ?_;intros
 refine c_call (c := c_be9) ((a0.heads.length : Int), 1, 4) H_be9 h5 fun ch => ?_
 refine go ?_;intros
 refine w_cond rfl (fun c => ?_) (fun c => ?_)
 ·replace h := itt h c
  try rw [c]
  refine go ?_;intros
  cases h
  exact r_end
 replace h := itf h c
 try rw [c]
 obtain ⟨hf197, h⟩ := gd h
 obtain ⟨q186, h305, h⟩ := bnd h
 refine go ?_;intros
 refine w_last (fun t o => ∃ q186_, q186 = .inr q186_ ∧ ∃ b255, Pin t (ovr [(1, .ptr 8 b255 210 0 0)] t) ∧ PinH o (ovh [(8, ⟨b255, 1, 210, true, [[.sl false 3 (List.map (eCommit false) a0.commits), .sl false 2 (List.map eHead a0.heads)]]⟩)] o)) ?_ ?_
 ·refine w_loop2 (fun n t o => ∃ l191 k189  b188, gl_ad9_4 a0 l191 k189  = some q186 ∧ n = l191.length ∧ (a0.commits).drop k189 = l191 ∧ Pin t (ovr [(1, .ptr 8 b188 210 0 0), (22, .ro (List.map (eCommit false) a0.commits)), (23, .v (.int .i64 (a0.commits.length : Int))), (24, .v (.int .i64 (k189 : Int)))] t) ∧ PinH o (ovh [(8, ⟨b188, 1, 210, true, [[.sl false 3 (List.map (eCommit false) a0.commits), .sl false 2 (List.map eHead a0.heads)]]⟩)] o)) _ ⟨_, _, _, h305, rfl, rfl, pin, pinh⟩ ?_
  rintro n t o ⟨l191, k189, b188, h305, rfl, hd192, pq1, pq2⟩
  refine pinned pq1 pq2 ?_
  cases l191 with
  | nil =>
   have hge194 := drop_ge hd192
   rw [gl_ad9_4] at h305
   refine go ?_;intros
   rw [hge194]
   refine go ?_;intros
   cases h305
   exact k_cn ⟨_, rfl, _, pin, pinh⟩
  | cons x190 l191 =>
   have hlt193 := drop_lt hd192
   have hx195 := drop_ix hd192
   have hw196 := drop_wr hd192 hf197
   rw [gl_ad9_4] at h305
   refine go ?_;intros
   rw [hlt193]
   refine go ?_;intros
   refine r_iro rfl rfl hx195 rfl ?_
   obtain ⟨x199, h200, h305⟩ := bnd h305
   refine go ?_;intros
   refine c_call (c := c_an9) (x190.sheet) H_an9 h200 fun ch => ?_
   refine go ?_;intros
   refine s_split rfl (fun c => ?_) (fun c => ?_)
   ·replace h305 := itt h305 c
    rw [c]
    refine go ?_;intros
    cases h305
    replace h : some _ = some _ := h
    cases h
    exact r_end
   replace h305 := itf h305 c
   rw [c]
   obtain ⟨x201, h202, h305⟩ := bnd h305
   refine go ?_;intros
   refine c_call (c := c_au9) (x190.note) H_au9 h202 fun ch => ?_
   refine go ?_;intros
   refine s_split rfl (fun c => ?_) (fun c => ?_)
   ·replace h305 := itt h305 c
    rw [c]
    refine go ?_;intros
    cases h305
    replace h : some _ = some _ := h
    cases h
    exact r_end
   replace h305 := itf h305 c
   rw [c]
   obtain ⟨x203, h204, h305⟩ := bnd h305
   refine go ?_;intros
   refine c_call (c := c_af9) (a0, x190) H_af9 h204 fun ch => ?_
   refine go ?_;intros
   refine s_split rfl (fun c => ?_) (fun c => ?_)
   ·replace h305 := itt h305 c
    rw [c]
    refine go ?_;intros
    cases h305
    replace h : some _ = some _ := h
    cases h
    exact r_end
   replace h305 := itf h305 c
   rw [c]
   refine go ?_;intros
   refine s_split rfl (fun c => ?_) (fun c => ?_)
   ·replace h305 := itt h305 (by first | exact c | (have c2 := c; simp only [List.length_map] at c2; exact c2))
    rw [c]
    refine go ?_;intros
    cases h305
    replace h : some _ = some _ := h
    cases h
    exact r_end
   replace h305 := itf h305 (by first | exact c | (have c2 := c; simp only [List.length_map] at c2; exact c2))
   rw [c]
   refine go ?_;intros
   refine w_cond rfl (fun c => ?_) (fun c => ?_)
   ·replace h305 := itt h305 (by first | exact c | (have c2 := c; simp only [List.length_map] at c2; exact c2))
    try rw [c]
    refine go ?_;intros
    cases h305
    replace h : some _ = some _ := h
    cases h
    exact r_end
   replace h305 := itf h305 (by first | exact c | (have c2 := c; simp only [List.length_map] at c2; exact c2))
   try rw [c]
   obtain ⟨hf246, h305⟩ := gd h305
   obtain ⟨q234, h306, h305⟩ := bnd h305
   refine go ?_;intros
   refine w_last (fun t o => ∃ q234_, q234 = .inr q234_ ∧ ∃ b253 b254, Pin t (ovr [(1, .ptr 8 b253 210 0 0), (22, .ro (List.map (eCommit false) a0.commits)), (23, .v (.int .i64 (a0.commits.length : Int))), (24, .v (.int .i64 (k189 : Int))), (34, .ptr 32 b254 115 0 2), (35, .v (.string x190.note)), (36, .v (.bool x201)), (37, .v (.bool false)), (40, .agg [.ro (List.map (eCommit false) a0.commits), .ro (List.map eHead a0.heads)]), (41, .agg [.ro (List.map eInt x190.up), .ro (List.map (eFeat false) x190.sheet), .v (.string x190.note)]), (42, .v (.int .i64 x203)), (43, .v (.int .i64 (k189 : Int))), (44, .v (.bool false)), (47, .v (.int .i64 (k189 : Int))), (48, .v (.bool ((k189 : Int) == 0))), (49, .ptr 32 b254 115 0 0), (50, .ro (List.map eInt x190.up)), (51, .v (.int .i64 (x190.up.length : Int))), (52, .v (.bool ((x190.up.length : Int) == 0))), (53, .v (.bool false)), (56, .ptr 32 b254 115 0 0), (57, .ro (List.map eInt x190.up)), (58, .v (.int .i64 (x190.up.length : Int))), (59, .v (.bool false))] t) ∧ PinH o (ovh [(8, ⟨b253, 1, 210, true, [[.sl false 3 (List.map (eCommit false) a0.commits), .sl false 2 (List.map eHead a0.heads)]]⟩), (32, ⟨b254, 1, 115, true, [[.sl false 1 (List.map eInt x190.up), .sl false 4 (List.map (eFeat false) x190.sheet), .v (.string x190.note)]]⟩)] o)) ?_ ?_
   ·refine w_loop2 (fun n t o => ∃ l240 k238  b236 b237, gl_ad9_5 k189 x190 l240 k238  = some q234 ∧ n = l240.length ∧ (x190.up).drop k238 = l240 ∧ Pin t (ovr [(1, .ptr 8 b236 210 0 0), (3, .v (.int .i64 (k189 : Int))), (4, .ptr 32 b237 115 0 0), (22, .ro (List.map (eCommit false) a0.commits)), (23, .v (.int .i64 (a0.commits.length : Int))), (24, .v (.int .i64 (k189 : Int))), (34, .ptr 32 b237 115 0 2), (35, .v (.string x190.note)), (36, .v (.bool x201)), (37, .v (.bool false)), (40, .agg [.ro (List.map (eCommit false) a0.commits), .ro (List.map eHead a0.heads)]), (41, .agg [.ro (List.map eInt x190.up), .ro (List.map (eFeat false) x190.sheet), .v (.string x190.note)]), (42, .v (.int .i64 x203)), (43, .v (.int .i64 (k189 : Int))), (44, .v (.bool false)), (47, .v (.int .i64 (k189 : Int))), (48, .v (.bool ((k189 : Int) == 0))), (49, .ptr 32 b237 115 0 0), (50, .ro (List.map eInt x190.up)), (51, .v (.int .i64 (x190.up.length : Int))), (52, .v (.bool ((x190.up.length : Int) == 0))), (53, .v (.bool false)), (56, .ptr 32 b237 115 0 0), (57, .ro (List.map eInt x190.up)), (58, .v (.int .i64 (x190.up.length : Int))), (59, .v (.bool false)), (62, .ro (List.map eInt x190.up)), (63, .v (.int .i64 (x190.up.length : Int))), (64, .v (.int .i64 (k238 : Int)))] t) ∧ PinH o (ovh [(8, ⟨b236, 1, 210, true, [[.sl false 3 (List.map (eCommit false) a0.commits), .sl false 2 (List.map eHead a0.heads)]]⟩), (32, ⟨b237, 1, 115, true, [[.sl false 1 (List.map eInt x190.up), .sl false 4 (List.map (eFeat false) x190.sheet), .v (.string x190.note)]]⟩)] o)) _ ⟨_, _, _, _, h306, rfl, rfl, pin, pinh⟩ ?_
    rintro n t o ⟨l240, k238, b236, b237, h306, rfl, hd241, pq1, pq2⟩
    refine pinned pq1 pq2 ?_
    cases l240 with
    | nil =>
     have hge243 := drop_ge hd241
     rw [gl_ad9_5] at h306
     refine go ?_;intros
     rw [hge243]
     refine go ?_;intros
     cases h306
     exact k_cn ⟨_, rfl, _, _, pin, pinh⟩
    | cons x239 l240 =>
     have hlt242 := drop_lt hd241
     have hx244 := drop_ix hd241
     have hw245 := drop_wr hd241 hf246
     rw [gl_ad9_5] at h306
     refine go ?_;intros
     rw [hlt242]
     refine go ?_;intros
     refine r_iro rfl rfl hx244 rfl ?_
     obtain ⟨x247, h248, h306⟩ := bnd h306
     refine go ?_;intros
     refine c_call (c := c_be9) (x239, 0, (IntKind.i64.wrap ((k189 : Int) - 1))) H_be9 h248 fun ch => ?_
     refine go ?_;intros
     refine s_split rfl (fun c => ?_) (fun c => ?_)
     ·replace h306 := itt h306 c
      rw [c]
      refine go ?_;intros
      cases h306
      replace h305 : some _ = some _ := h305
      cases h305
      replace h : some _ = some _ := h
      cases h
      exact r_end
     replace h306 := itf h306 c
     rw [c]
     obtain ⟨x249, h250, h306⟩ := bnd h306
     refine go ?_;intros
     refine r_sls (f := eInt) rfl rfl rfl h250 (fun _ => rfl) ?_
     obtain ⟨x251, h252, h306⟩ := bnd h306
     refine go ?_;intros
     refine c_call (c := c_bg9) (x249, x239) H_bg9 h252 fun ch => ?_
     refine go ?_;intros
     refine w_cond rfl (fun c => ?_) (fun c => ?_)
     ·replace h306 := itt h306 c
      try rw [c]
      refine go ?_;intros
      cases h306
      replace h305 : some _ = some _ := h305
      cases h305
      replace h : some _ = some _ := h
      cases h
      exact r_end
     replace h306 := itf h306 c
     try rw [c]
     refine go ?_;intros
     rw [hw245]
     exact k_ln2 _ (Nat.lt_succ_self _) ⟨_, _, _, _, h306, rfl, drop_next hd241, pin, pinh⟩
   rintro t o ⟨q234, rfl, b253, b254, pq1, pq2⟩
   refine pinnedQ pq1 pq2 ?_
   refine go ?_;intros
   rw [hw196]
   exact k_ln2 _ (Nat.lt_succ_self _) ⟨_, _, _, h305, rfl, drop_next hd192, pin, pinh⟩
 rintro t o ⟨q186, rfl, b255, pq1, pq2⟩
 refine pinnedQ pq1 pq2 ?_
 obtain ⟨hf297, h⟩ := gd h
 obtain ⟨q286, h307, h⟩ := bnd h
 refine go ?_;intros
 refine w_last (fun t o => ∃ q286_, q286 = .inr q286_ ∧ Pin t (ovr [] t) ∧ PinH o (ovh [] o)) ?_ ?_
 ·refine w_loop2 (fun n t o => ∃ l291 k289  b288, gl_ad9_6 a0 l291 k289  = some q286 ∧ n = l291.length ∧ (a0.heads).drop k289 = l291 ∧ Pin t (ovr [(1, .ptr 8 b288 210 0 0), (85, .ro (List.map eHead a0.heads)), (86, .v (.int .i64 (a0.heads.length : Int))), (87, .v (.int .i64 (k289 : Int)))] t) ∧ PinH o (ovh [(8, ⟨b288, 1, 210, true, [[.sl false 3 (List.map (eCommit false) a0.commits), .sl false 2 (List.map eHead a0.heads)]]⟩)] o)) _ ⟨_, _, _, h307, rfl, rfl, pin, pinh⟩ ?_
  rintro n t o ⟨l291, k289, b288, h307, rfl, hd292, pq1, pq2⟩
  refine pinned pq1 pq2 ?_
  cases l291 with
  | nil =>
   have hge294 := drop_ge hd292
   rw [gl_ad9_6] at h307
   refine go ?_;intros
   rw [hge294]
   refine go ?_;intros
   cases h307
   exact k_cn ⟨_, rfl, pin, pinh⟩
  | cons x290 l291 =>
   have hlt293 := drop_lt hd292
   have hx295 := drop_ix hd292
   have hw296 := drop_wr hd292 hf297
   rw [gl_ad9_6] at h307
   refine go ?_;intros
   rw [hlt293]
   refine go ?_;intros
   refine r_iro rfl rfl hx295 rfl ?_
   obtain ⟨x299, h300, h307⟩ := bnd h307
   refine go ?_;intros
   refine c_call (c := c_au9) (x290.name) H_au9 h300 fun ch => ?_
   refine go ?_;intros
   refine s_split rfl (fun c => ?_) (fun c => ?_)
   ·replace h307 := itt h307 c
    rw [c]
    refine go ?_;intros
    cases h307
    replace h : some _ = some _ := h
    cases h
    exact r_end
   replace h307 := itf h307 c
   rw [c]
   obtain ⟨x301, h302, h307⟩ := bnd h307
   refine go ?_;intros
   refine c_call (c := c_ah9) (a0, x290.name) H_ah9 h302 fun ch => ?_
   refine go ?_;intros
   refine s_split rfl (fun c => ?_) (fun c => ?_)
   ·replace h307 := itt h307 c
    rw [c]
    refine go ?_;intros
    cases h307
    replace h : some _ = some _ := h
    cases h
    exact r_end
   replace h307 := itf h307 c
   rw [c]
   obtain ⟨x303, h304, h307⟩ := bnd h307
   refine go ?_;intros
   refine c_call (c := c_ak9) (a0, x290.at_) H_ak9 h304 fun ch => ?_
   refine go ?_;intros
   refine w_cond rfl (fun c => ?_) (fun c => ?_)
   ·replace h307 := itt h307 c
    try rw [c]
    refine go ?_;intros
    cases h307
    replace h : some _ = some _ := h
    cases h
    exact r_end
   replace h307 := itf h307 c
   try rw [c]
   refine go ?_;intros
   rw [hw296]
   exact k_ln2 _ (Nat.lt_succ_self _) ⟨_, _, _, h307, rfl, drop_next hd292, pin, pinh⟩
 rintro t o ⟨q286, rfl, pq1, pq2⟩
 refine pinnedQ pq1 pq2 ?_
 refine go ?_;intros
 cases h
 exact r_end
theorem d_aj9 {G : Gam}  (a0 : Repo) (a1 : Int) (r : (List Bool)) (h : gf_aj9 a0 a1 = some r) : Does G if_aj9 ks_aj9 (c_aj9.args (a0, a1)) [] (c_aj9.ans (a0, a1) r) := by
 refine does_pn (L := [(0, .agg [.ro (List.map (eCommit false) a0.commits), .ro (List.map eHead a0.heads)]), (1, .v (.int .i64 a1))]) (fun bs => pin) fun bs t o => ?_
 show vwp _ ib_aj9 _ _
 unfold ib_aj9
 refine w_ir ?_
 unfold gf_aj9 at h
 obtain ⟨h4, h⟩ := gd h
 refine go ?_;intros
 refine r_mks (f := eBool) (x := false) rfl rfl (band1 h4) (band2 h4) rfl fun b2 => ?_
 obtain ⟨x5, h6, h⟩ := bnd h
 refine go ?_;intros
 refine r_ire (xs := (List.replicate ((a0.commits.length : Int)).toNat false)) rfl rfl h6 rfl ?_
 refine go ?_;intros
 refine c_ste (f := eBool) (List.replicate ((a0.commits.length : Int)).toNat false) true (idx_get h6).2 ?_
 obtain ⟨q150, h205, h⟩ := bnd h
 refine go ?_;intros
 refine w_last (fun t o => ∃ b203 c204, Pin t (ovr [(5, .ref 96 b203 c204 0 q150.length 33)] t) ∧ PinH o (ovh [(96, ent b203 c204 33 (List.map eBool q150))] o)) ?_ ?_
 ·refine w_loop2 (fun n t o => ∃ n156 v151 v153 b152 b154 c155, gl_aj9_4 a0 n156 v151 v153 = some q150 ∧ n156 = n ∧ Pin t (ovr [(2, .ptr 16 b152 210 0 0), (5, .ref 96 b154 c155 0 v153.length 33), (6, .v (.int .i64 v151))] t) ∧ PinH o (ovh [(16, ⟨b152, 1, 210, true, [[.sl false 3 (List.map (eCommit false) a0.commits), .sl false 2 (List.map eHead a0.heads)]]⟩), (96, ent b154 c155 33 (List.map eBool v153))] o)) _ ⟨_, _, _, _, _, _, h205, rfl, pin, pinh⟩ ?_
  rintro n t o ⟨n156, v151, v153, b152, b154, c155, h205, rfl, pq1, pq2⟩
  refine pinned pq1 pq2 ?_
  cases n156 with
  | zero => rw [gl_aj9_4] at h205; cases h205
  | succ n156 =>
   rw [gl_aj9_4] at h205
   refine go ?_;intros
   refine w_cond rfl (fun c => ?_) (fun c => ?_)
   ·replace h205 := itt h205 c
    try rw [c]
    obtain ⟨x157, h158, h205⟩ := bnd h205
    refine go ?_;intros
    refine r_ire (xs := v153) rfl rfl h158 rfl ?_
    refine go ?_;intros
    refine r_lde (f := eBool) (xs := v153) (x := x157) rfl rfl (idx_get h158).2 rfl rfl rfl ?_
    refine go ?_;intros
    refine w_cond rfl (fun c => ?_) (fun c => ?_)
    ·replace h205 := itt h205 c
     try rw [c]
     obtain ⟨x159, h160, h205⟩ := bnd h205
     refine go ?_;intros
     refine r_iro rfl rfl h160 rfl ?_
     obtain ⟨hf195, h205⟩ := gd h205
     obtain ⟨q181, h206, h205⟩ := bnd h205
     refine go ?_;intros
     refine w_last (fun t o => ∃ b198 b200 c201, Pin t (ovr [(2, .ptr 16 b198 210 0 0), (5, .ref 96 b200 c201 0 q181.length 33), (6, .v (.int .i64 v151))] t) ∧ PinH o (ovh [(16, ⟨b198, 1, 210, true, [[.sl false 3 (List.map (eCommit false) a0.commits), .sl false 2 (List.map eHead a0.heads)]]⟩), (96, ent b200 c201 33 (List.map eBool q181))] o)) ?_ ?_
     ·refine w_loop2 (fun n t o => ∃ l189 k187 v184 b183 b185 c186, gl_aj9_5 l189 k187 v184 = some q181 ∧ n = l189.length ∧ (x159.up).drop k187 = l189 ∧ Pin t (ovr [(2, .ptr 16 b183 210 0 0), (5, .ref 96 b185 c186 0 v184.length 33), (6, .v (.int .i64 v151)), (30, .ro (List.map eInt x159.up)), (31, .v (.int .i64 (x159.up.length : Int))), (32, .v (.int .i64 (k187 : Int)))] t) ∧ PinH o (ovh [(16, ⟨b183, 1, 210, true, [[.sl false 3 (List.map (eCommit false) a0.commits), .sl false 2 (List.map eHead a0.heads)]]⟩), (96, ent b185 c186 33 (List.map eBool v184))] o)) _ ⟨_, _, _, _, _, _, h206, rfl, rfl, pin, pinh⟩ ?_
      rintro n t o ⟨l189, k187, v184, b183, b185, c186, h206, rfl, hd190, pq1, pq2⟩
      refine pinned pq1 pq2 ?_
      cases l189 with
      | nil =>
       have hge192 := drop_ge hd190
       rw [gl_aj9_5] at h206
       refine go ?_;intros
       rw [hge192]
       refine go ?_;intros
       cases h206
       exact k_cn ⟨_, _, _, pin, pinh⟩
      | cons x188 l189 =>
       have hlt191 := drop_lt hd190
       have hx193 := drop_ix hd190
       have hw194 := drop_wr hd190 hf195
       rw [gl_aj9_5] at h206
       refine go ?_;intros
       rw [hlt191]
       refine go ?_;intros
       refine r_iro rfl rfl hx193 rfl ?_
       obtain ⟨x196, h197, h206⟩ := bnd h206
       refine go ?_;intros
       refine r_ire (xs := v184) rfl rfl h197 rfl ?_
       refine go ?_;intros
       refine c_ste (f := eBool) v184 true (idx_get h197).2 ?_
       refine go ?_;intros
       rw [hw194]
       exact k_ln2 _ (Nat.lt_succ_self _) ⟨_, _, _, _, _, _, h206, rfl, drop_next hd190, pin, pinh⟩
     rintro t o ⟨b198, b200, c201, pq1, pq2⟩
     refine pinnedQ pq1 pq2 ?_
     refine go ?_;intros
     exact k_ln2 _ (Nat.lt_succ_self _) ⟨_, _, _, _, _, _, h205, rfl, pin, pinh⟩
    replace h205 := itf h205 c
    try rw [c]
    refine go ?_;intros
    exact k_ln2 _ (Nat.lt_succ_self _) ⟨_, _, _, _, _, _, h205, rfl, pin, pinh⟩
   replace h205 := itf h205 c
   try rw [c]
   refine go ?_;intros
   cases h205
   exact k_cn ⟨_, _, pin, pinh⟩
 rintro t o ⟨b203, c204, pq1, pq2⟩
 refine pinnedQ pq1 pq2 ?_
 refine go ?_;intros
 cases h
 exact r_end
theorem d_ay9 {G : Gam} (H_aw9 : Has G c_aw9) (a0 : Repo) (r : Repo) (h : gf_ay9 a0 = some r) : Does G if_ay9 ks_ay9 (c_ay9.args (a0)) [] (c_ay9.ans (a0) r) := by
 refine does_pn (L := [(0, .agg [.ro (List.map (eCommit false) a0.commits), .ro (List.map eHead a0.heads)])]) (fun bs => pin) fun bs t o => ?_
 show vwp _ ib_ay9 _ _
 unfold ib_ay9
 refine w_ir ?_
 unfold gf_ay9 at h
 obtain ⟨h7, h⟩ := gd h
 refine go ?_;intros
 refine r_app (f := eHead) (xs := ([] : (List Head))) (ys := a0.heads) rfl (src_ro (fun _ => rfl) (fun _ => rfl)) rfl rfl (by first | rfl | simp) h7 fun b5 c6 => ?_
 obtain ⟨hf91, h⟩ := gd h
 obtain ⟨q70, h114, h⟩ := bnd h
 refine go ?_;intros
 refine w_last (fun t o => ∃ b103 c104 b105 c106 b107 b109 c110 b111 c112 b113, Pin t (ovr [(2, .ptr 16 b107 210 0 0), (3, .ptr 24 b113 210 0 0)] t) ∧ PinH o (ovh [(1000256, ent b103 c104 115 (List.map (eCommit true) [])), (1000257, ent b105 c106 130 (List.map eHead [])), (16, ⟨b107, 1, 210, true, [[.al 1000256 b103 c104 0 ([] : List Commit).length 115, .al 1000257 b105 c106 0 ([] : List Head).length 130]]⟩), (1000384, ent b109 c110 115 (List.map (eCommit true) q70)), (1000385, ent b111 c112 130 (List.map eHead ([] ++ a0.heads))), (24, ⟨b113, 1, 210, true, [[.al 1000384 b109 c110 0 q70.length 115, .al 1000385 b111 c112 0 ([] ++ a0.heads).length 130]]⟩)] o)) ?_ ?_
 ·refine w_loop2 (fun n t o => ∃ l85 k83 v77 b72 c73 b74 c75 b76 b78 c79 b80 c81 b82, gl_ay9_1 l85 k83 v77 = some q70 ∧ n = l85.length ∧ (a0.commits).drop k83 = l85 ∧ Pin t (ovr [(2, .ptr 16 b76 210 0 0), (3, .ptr 24 b82 210 0 0), (13, .ro (List.map (eCommit false) a0.commits)), (14, .v (.int .i64 (a0.commits.length : Int))), (15, .v (.int .i64 (k83 : Int)))] t) ∧ PinH o (ovh [(1000256, ent b72 c73 115 (List.map (eCommit true) [])), (1000257, ent b74 c75 130 (List.map eHead [])), (16, ⟨b76, 1, 210, true, [[.al 1000256 b72 c73 0 ([] : List Commit).length 115, .al 1000257 b74 c75 0 ([] : List Head).length 130]]⟩), (1000384, ent b78 c79 115 (List.map (eCommit true) v77)), (1000385, ent b80 c81 130 (List.map eHead ([] ++ a0.heads))), (24, ⟨b82, 1, 210, true, [[.al 1000384 b78 c79 0 v77.length 115, .al 1000385 b80 c81 0 ([] ++ a0.heads).length 130]]⟩)] o)) _ ⟨_, _, _, _, _, _, _, _, _, _, _, _, _, h114, rfl, rfl, pin, pinh⟩ ?_
  rintro n t o ⟨l85, k83, v77, b72, c73, b74, c75, b76, b78, c79, b80, c81, b82, h114, rfl, hd86, pq1, pq2⟩
  refine pinned pq1 pq2 ?_
  cases l85 with
  | nil =>
   have hge88 := drop_ge hd86
   rw [gl_ay9_1] at h114
   refine go ?_;intros
   rw [hge88]
   refine go ?_;intros
   cases h114
   exact k_cn ⟨_, _, _, _, _, _, _, _, _, _, pin, pinh⟩
  | cons x84 l85 =>
   have hlt87 := drop_lt hd86
   have hx89 := drop_ix hd86
   have hw90 := drop_wr hd86 hf91
   rw [gl_ay9_1] at h114
   refine go ?_;intros
   rw [hlt87]
   refine go ?_;intros
   refine r_iro rfl rfl hx89 rfl ?_
   obtain ⟨x93, h94, h114⟩ := bnd h114
   refine go ?_;intros
   refine c_call (c := c_aw9) (x84) H_aw9 h94 fun ch => ?_
   refine go ?_;intros
   try simp only [take_map_len, take_ent]
   obtain ⟨h102, h114⟩ := gd h114
   refine go ?_;intros
   refine r_app (f := (eCommit true)) (xs := v77) (ys := ([x93] : (List Commit))) rfl (src_mv rfl rfl (by first | rfl | simp)) rfl rfl (by first | rfl | simp) h102 fun b100 c101 => ?_
   refine go ?_;intros
   rw [hw90]
   exact k_ln2 _ (Nat.lt_succ_self _) ⟨_, _, _, _, _, _, _, _, _, _, _, _, _, h114, rfl, drop_next hd86, pin, pinh⟩
 rintro t o ⟨b103, c104, b105, c106, b107, b109, c110, b111, c112, b113, pq1, pq2⟩
 refine pinnedQ pq1 pq2 ?_
 refine go ?_;intros
 cases h
 exact r_end
theorem d_ch9 {G : Gam} (fuel : Nat) (H_cd9 : Has G c_cd9) (H_ch9 : Has G (c_ch9 fuel)) (a0 : Repo) (a1 : Int) (a2 : Repo) (a3 : Int) (r : Bool) (h : gf_ch9 (fuel + 1) a0 a1 a2 a3 = some r) : Does G if_ch9 ks_ch9 ((c_ch9 (fuel + 1)).args (a0, a1, a2, a3)) [] ((c_ch9 (fuel + 1)).ans (a0, a1, a2, a3) r) := by
 refine does_pn (L := [(0, .agg [.ro (List.map (eCommit false) a0.commits), .ro (List.map eHead a0.heads)]), (1, .v (.int .i64 a1)), (2, .agg [.ro (List.map (eCommit false) a2.commits), .ro (List.map eHead a2.heads)]), (3, .v (.int .i64 a3))]) (fun bs => pin) fun bs t o => ?_
 show vwp _ ib_ch9 _ _
 unfold ib_ch9
 refine w_ir ?_
 replace h : gb_ch9 (gf_ch9 fuel) a0 a1 a2 a3 = some r := h
 unfold gb_ch9 at h
 obtain ⟨x3, h4, h⟩ := bnd h
 refine go ?_;intros
 refine r_iro rfl rfl h4 rfl ?_
 obtain ⟨x6, h7, h⟩ := bnd h
 refine go ?_;intros
 refine r_iro rfl rfl h7 rfl ?_
 refine go ?_;intros
 refine s_split rfl (fun c => ?_) (fun c => ?_)
 ·replace h := itt h c
  rw [c]
  refine go ?_;intros
  cases h
  exact r_end
 replace h := itf h c
 rw [c]
 refine go ?_;intros
 refine s_split rfl (fun c => ?_) (fun c => ?_)
 ·replace h := itt h (by first | exact c | (have c2 := c; simp only [List.length_map] at c2; exact c2))
  rw [c]
  refine go ?_;intros
  cases h
  exact r_end
 replace h := itf h (by first | exact c | (have c2 := c; simp only [List.length_map] at c2; exact c2))
 rw [c]
 obtain ⟨x9, h10, h⟩ := bnd h
 refine go ?_;intros
 refine c_call (c := c_cd9) (x3.sheet, x6.sheet) H_cd9 h10 fun ch => ?_
 refine go ?_;intros
 refine w_cond rfl (fun c => ?_) (fun c => ?_)
 ·replace h := itt h c
  try rw [c]
  refine go ?_;intros
  cases h
  exact r_end
 replace h := itf h c
 try rw [c]
 obtain ⟨hf52, h⟩ := gd h
 obtain ⟨q38, h57, h⟩ := bnd h
 refine go ?_;intros
 refine w_last (fun t o => ∃ q38_, q38 = .inr q38_ ∧ Pin t (ovr [] t) ∧ PinH o (ovh [] o)) ?_ ?_
 ·refine w_loop2 (fun n t o => ∃ l46 k44  b40 b41 b42 b43, gl_ch9_1 x6 (gf_ch9 fuel) a0 a2 l46 k44  = some q38 ∧ n = l46.length ∧ (x3.up).drop k44 = l46 ∧ Pin t (ovr [(4, .ptr 32 b40 210 0 0), (6, .ptr 48 b41 210 0 0), (9, .ptr 72 b42 115 0 0), (10, .ptr 80 b43 115 0 0), (11, .v (.int .i64 (k44 : Int)))] t) ∧ PinH o (ovh [(32, ⟨b40, 1, 210, true, [[.sl false 3 (List.map (eCommit false) a0.commits), .sl false 2 (List.map eHead a0.heads)]]⟩), (48, ⟨b41, 1, 210, true, [[.sl false 3 (List.map (eCommit false) a2.commits), .sl false 2 (List.map eHead a2.heads)]]⟩), (72, ⟨b42, 1, 115, true, [[.sl false 1 (List.map eInt x3.up), .sl false 4 (List.map (eFeat false) x3.sheet), .v (.string x3.note)]]⟩), (80, ⟨b43, 1, 115, true, [[.sl false 1 (List.map eInt x6.up), .sl false 4 (List.map (eFeat false) x6.sheet), .v (.string x6.note)]]⟩)] o)) _ ⟨_, _, _, _, _, _, h57, rfl, rfl, pin, pinh⟩ ?_
  rintro n t o ⟨l46, k44, b40, b41, b42, b43, h57, rfl, hd47, pq1, pq2⟩
  refine pinned pq1 pq2 ?_
  cases l46 with
  | nil =>
   have hge49 := drop_ge hd47
   rw [gl_ch9_1] at h57
   refine go ?_;intros
   rw [hge49]
   refine go ?_;intros
   cases h57
   exact k_cn ⟨_, rfl, pin, pinh⟩
  | cons x45 l46 =>
   have hlt48 := drop_lt hd47
   have hx50 := drop_ix hd47
   have hw51 := drop_wr hd47 hf52
   rw [gl_ch9_1] at h57
   refine go ?_;intros
   rw [hlt48]
   refine go ?_;intros
   refine r_iro rfl rfl hx50 rfl ?_
   obtain ⟨x53, h54, h57⟩ := bnd h57
   refine go ?_;intros
   refine r_iro rfl rfl h54 rfl ?_
   obtain ⟨x55, h56, h57⟩ := bnd h57
   refine go ?_;intros
   refine c_call (c := (c_ch9 fuel)) (a0, x45, a2, x53) H_ch9 h56 fun ch => ?_
   refine go ?_;intros
   refine w_cond rfl (fun c => ?_) (fun c => ?_)
   ·replace h57 := itt h57 c
    try rw [c]
    refine go ?_;intros
    cases h57
    replace h : some _ = some _ := h
    cases h
    exact r_end
   replace h57 := itf h57 c
   try rw [c]
   refine go ?_;intros
   rw [hw51]
   exact k_ln2 _ (Nat.lt_succ_self _) ⟨_, _, _, _, _, _, h57, rfl, drop_next hd47, pin, pinh⟩
 rintro t o ⟨q38, rfl, pq1, pq2⟩
 refine pinnedQ pq1 pq2 ?_
 refine go ?_;intros
 cases h
 exact r_end
theorem d_av9 {G : Gam} (H_ao9 : Has G c_ao9) (a0 : Repo) (a1 : Repo) (r : (List (List Bool))) (h : gf_av9 a0 a1 = some r) : Does G if_av9 ks_av9 (c_av9.args (a0, a1)) [] (c_av9.ans (a0, a1) r) := by
 refine does_pn (L := [(0, .agg [.ro (List.map (eCommit false) a0.commits), .ro (List.map eHead a0.heads)]), (1, .agg [.ro (List.map (eCommit false) a1.commits), .ro (List.map eHead a1.heads)])]) (fun bs => pin) fun bs t o => ?_
 show vwp _ ib_av9 _ _
 unfold ib_av9
 refine w_ir ?_
 unfold gf_av9 at h
 obtain ⟨h5, h⟩ := gd h
 refine go ?_;intros
 refine r_mks (f := (eSl true 33 eBool)) (x := ([] : (List Bool))) rfl rfl (band1 h5) (band2 h5) rfl fun b3 => ?_
 obtain ⟨hf1720, h⟩ := gd h
 obtain ⟨q1706, h2286, h⟩ := bnd h
 refine go ?_;intros
 refine w_last (fun t o => ∃ b2284 c2285, Pin t (ovr [(5, .ref 120 b2284 c2285 0 q1706.length 241)] t) ∧ PinH o (ovh [(120, ent b2284 c2285 241 (List.map (eSl true 33 eBool) q1706))] o)) ?_ ?_
 ·refine w_loop2 (fun n t o => ∃ l1714 k1712 v1709 b1708 b1710 c1711, gl_av9_40 a1 l1714 k1712 v1709 = some q1706 ∧ n = l1714.length ∧ (a0.commits).drop k1712 = l1714 ∧ Pin t (ovr [(3, .ptr 24 b1708 210 0 0), (5, .ref 120 b1710 c1711 0 v1709.length 241), (17, .ro (List.map (eCommit false) a0.commits)), (18, .v (.int .i64 (a0.commits.length : Int))), (19, .v (.int .i64 (k1712 : Int)))] t) ∧ PinH o (ovh [(24, ⟨b1708, 1, 210, true, [[.sl false 3 (List.map (eCommit false) a1.commits), .sl false 2 (List.map eHead a1.heads)]]⟩), (120, ent b1710 c1711 241 (List.map (eSl true 33 eBool) v1709))] o)) _ ⟨_, _, _, _, _, _, h2286, rfl, rfl, pin, pinh⟩ ?_
  rintro n t o ⟨l1714, k1712, v1709, b1708, b1710, c1711, h2286, rfl, hd1715, pq1, pq2⟩
  refine pinned pq1 pq2 ?_
  cases l1714 with
  | nil =>
   have hge1717 := drop_ge hd1715
   rw [gl_av9_40] at h2286
   refine go ?_;intros
   rw [hge1717]
   refine go ?_;intros
   cases h2286
   exact k_cn ⟨_, _, pin, pinh⟩
  | cons x1713 l1714 =>
   have hlt1716 := drop_lt hd1715
   have hx1718 := drop_ix hd1715
   have hw1719 := drop_wr hd1715 hf1720
   rw [gl_av9_40] at h2286
   refine go ?_;intros
   rw [hlt1716]
   refine go ?_;intros
   refine r_iro rfl rfl hx1718 rfl ?_
   obtain ⟨h1724, h2286⟩ := gd h2286
   refine go ?_;intros
   refine r_mks (f := eBool) (x := false) rfl rfl (band1 h1724) (band2 h1724) rfl fun b1722 => ?_
   obtain ⟨x1725, h1726, h2286⟩ := bnd h2286
   refine go ?_;intros
   refine r_ire (xs := v1709) rfl rfl h1726 rfl ?_
   refine go ?_;intros
   refine c_ste (f := (eSl true 33 eBool)) v1709 (List.replicate ((a1.commits.length : Int)).toNat false) (idx_get h1726).2 ?_
   obtain ⟨hf2148, h2286⟩ := gd h2286
   obtain ⟨q2133, h2287, h2286⟩ := bnd h2286
   refine go ?_;intros
   refine w_last (fun t o => ∃ b2279 b2281 c2282, Pin t (ovr [(3, .ptr 24 b2279 210 0 0), (5, .ref 120 b2281 c2282 0 q2133.length 241), (17, .ro (List.map (eCommit false) a0.commits)), (18, .v (.int .i64 (a0.commits.length : Int))), (19, .v (.int .i64 (k1712 : Int)))] t) ∧ PinH o (ovh [(24, ⟨b2279, 1, 210, true, [[.sl false 3 (List.map (eCommit false) a1.commits), .sl false 2 (List.map eHead a1.heads)]]⟩), (120, ent b2281 c2282 241 (List.map (eSl true 33 eBool) q2133))] o)) ?_ ?_
   ·refine w_loop2 (fun n t o => ∃ l2142 k2140 v2136 b2135 b2137 c2138 b2139, gl_av9_50 x1713 k1712 l2142 k2140 v2136 = some q2133 ∧ n = l2142.length ∧ (a1.commits).drop k2140 = l2142 ∧ Pin t (ovr [(3, .ptr 24 b2135 210 0 0), (5, .ref 120 b2137 c2138 0 v2136.length 241), (6, .v (.int .i64 (k1712 : Int))), (7, .ptr 56 b2139 115 0 0), (17, .ro (List.map (eCommit false) a0.commits)), (18, .v (.int .i64 (a0.commits.length : Int))), (19, .v (.int .i64 (k1712 : Int))), (32, .ro (List.map (eCommit false) a1.commits)), (33, .v (.int .i64 (a1.commits.length : Int))), (34, .v (.int .i64 (k2140 : Int)))] t) ∧ PinH o (ovh [(24, ⟨b2135, 1, 210, true, [[.sl false 3 (List.map (eCommit false) a1.commits), .sl false 2 (List.map eHead a1.heads)]]⟩), (120, ent b2137 c2138 241 (List.map (eSl true 33 eBool) v2136)), (56, ⟨b2139, 1, 115, true, [[.sl false 1 (List.map eInt x1713.up), .sl false 4 (List.map (eFeat false) x1713.sheet), .v (.string x1713.note)]]⟩)] o)) _ ⟨_, _, _, _, _, _, _, h2287, rfl, rfl, pin, pinh⟩ ?_
    rintro n t o ⟨l2142, k2140, v2136, b2135, b2137, c2138, b2139, h2287, rfl, hd2143, pq1, pq2⟩
    refine pinned pq1 pq2 ?_
    cases l2142 with
    | nil =>
     have hge2145 := drop_ge hd2143
     rw [gl_av9_50] at h2287
     refine go ?_;intros
     rw [hge2145]
     refine go ?_;intros
     cases h2287
     exact k_cn ⟨_, _, _, pin, pinh⟩
    | cons x2141 l2142 =>
     have hlt2144 := drop_lt hd2143
     have hx2146 := drop_ix hd2143
     have hw2147 := drop_wr hd2143 hf2148
     rw [gl_av9_50] at h2287
     refine go ?_;intros
     rw [hlt2144]
     refine go ?_;intros
     refine r_iro rfl rfl hx2146 rfl ?_
     refine go ?_;intros
     refine s_split rfl (fun c => ?_) (fun c => ?_)
     ·replace h2287 := itt h2287 c
      rw [c]
      obtain ⟨x2150, h2151, h2287⟩ := bnd h2287
      refine go ?_;intros
      refine c_call (c := c_ao9) (x1713.sheet, x2141.sheet) H_ao9 h2151 fun ch => ?_
      refine go ?_;intros
      refine s_split rfl (fun c => ?_) (fun c => ?_)
      ·replace h2287 := itt h2287 c
       rw [c]
       obtain ⟨hf2212, h2287⟩ := gd h2287
       obtain ⟨q2195, h2288, h2287⟩ := bnd h2287
       refine go ?_;intros
       refine w_last (fun t o => ∃ b2223 b2224 c2225 b2226 b2227, Pin t (ovr [(3, .ptr 24 b2223 210 0 0), (5, .ref 120 b2224 c2225 0 v2136.length 241), (6, .v (.int .i64 (k1712 : Int))), (7, .ptr 56 b2226 115 0 0), (8, .v (.int .i64 (k2140 : Int))), (10, .v (.bool q2195.1)), (17, .ro (List.map (eCommit false) a0.commits)), (18, .v (.int .i64 (a0.commits.length : Int))), (19, .v (.int .i64 (k1712 : Int))), (32, .ro (List.map (eCommit false) a1.commits)), (33, .v (.int .i64 (a1.commits.length : Int))), (34, .v (.int .i64 (k2140 : Int))), (45, .ptr 56 b2226 115 0 1), (46, .ro (List.map (eFeat false) x1713.sheet)), (47, .ptr 72 b2227 115 0 1), (48, .ro (List.map (eFeat false) x2141.sheet)), (49, .v (.bool true)), (52, .ptr 56 b2226 115 0 0), (53, .ro (List.map eInt x1713.up)), (54, .v (.int .i64 (x1713.up.length : Int))), (55, .ptr 72 b2227 115 0 0), (56, .ro (List.map eInt x2141.up)), (57, .v (.int .i64 (x2141.up.length : Int))), (58, .v (.bool q2195.2))] t) ∧ PinH o (ovh [(24, ⟨b2223, 1, 210, true, [[.sl false 3 (List.map (eCommit false) a1.commits), .sl false 2 (List.map eHead a1.heads)]]⟩), (120, ent b2224 c2225 241 (List.map (eSl true 33 eBool) v2136)), (56, ⟨b2226, 1, 115, true, [[.sl false 1 (List.map eInt x1713.up), .sl false 4 (List.map (eFeat false) x1713.sheet), .v (.string x1713.note)]]⟩), (72, ⟨b2227, 1, 115, true, [[.sl false 1 (List.map eInt x2141.up), .sl false 4 (List.map (eFeat false) x2141.sheet), .v (.string x2141.note)]]⟩)] o)) ?_ ?_
       ·refine w_loop2 (fun n t o => ∃ l2206 k2204 v2196 v2198 b2199 b2200 c2201 b2202 b2203, gl_av9_51 v2136 x2141 l2206 k2204 v2196 v2198 = some q2195 ∧ n = l2206.length ∧ (x1713.up).drop k2204 = l2206 ∧ Pin t (ovr [(3, .ptr 24 b2199 210 0 0), (5, .ref 120 b2200 c2201 0 v2136.length 241), (6, .v (.int .i64 (k1712 : Int))), (7, .ptr 56 b2202 115 0 0), (8, .v (.int .i64 (k2140 : Int))), (9, .ptr 72 b2203 115 0 0), (10, .v (.bool v2196)), (11, .v (.int .i64 (k2204 : Int))), (17, .ro (List.map (eCommit false) a0.commits)), (18, .v (.int .i64 (a0.commits.length : Int))), (19, .v (.int .i64 (k1712 : Int))), (32, .ro (List.map (eCommit false) a1.commits)), (33, .v (.int .i64 (a1.commits.length : Int))), (34, .v (.int .i64 (k2140 : Int))), (45, .ptr 56 b2202 115 0 1), (46, .ro (List.map (eFeat false) x1713.sheet)), (47, .ptr 72 b2203 115 0 1), (48, .ro (List.map (eFeat false) x2141.sheet)), (49, .v (.bool true)), (52, .ptr 56 b2202 115 0 0), (53, .ro (List.map eInt x1713.up)), (54, .v (.int .i64 (x1713.up.length : Int))), (55, .ptr 72 b2203 115 0 0), (56, .ro (List.map eInt x2141.up)), (57, .v (.int .i64 (x2141.up.length : Int))), (58, .v (.bool v2198))] t) ∧ PinH o (ovh [(24, ⟨b2199, 1, 210, true, [[.sl false 3 (List.map (eCommit false) a1.commits), .sl false 2 (List.map eHead a1.heads)]]⟩), (120, ent b2200 c2201 241 (List.map (eSl true 33 eBool) v2136)), (56, ⟨b2202, 1, 115, true, [[.sl false 1 (List.map eInt x1713.up), .sl false 4 (List.map (eFeat false) x1713.sheet), .v (.string x1713.note)]]⟩), (72, ⟨b2203, 1, 115, true, [[.sl false 1 (List.map eInt x2141.up), .sl false 4 (List.map (eFeat false) x2141.sheet), .v (.string x2141.note)]]⟩)] o)) _ ⟨_, _, _, _, _, _, _, _, _, h2288, rfl, rfl, pin, pinh⟩ ?_
        rintro n t o ⟨l2206, k2204, v2196, v2198, b2199, b2200, c2201, b2202, b2203, h2288, rfl, hd2207, pq1, pq2⟩
        refine pinned pq1 pq2 ?_
        cases l2206 with
        | nil =>
         have hge2209 := drop_ge hd2207
         rw [gl_av9_51] at h2288
         refine go ?_;intros
         rw [hge2209]
         refine go ?_;intros
         cases h2288
         exact k_cn ⟨_, _, _, _, _, pin, pinh⟩
        | cons x2205 l2206 =>
         have hlt2208 := drop_lt hd2207
         have hx2210 := drop_ix hd2207
         have hw2211 := drop_wr hd2207 hf2212
         rw [gl_av9_51] at h2288
         refine go ?_;intros
         rw [hlt2208]
         refine go ?_;intros
         refine w_cond rfl (fun c => ?_) (fun c => ?_)
         ·replace h2288 := itt h2288 c
          try rw [c]
          refine go ?_;intros
          refine r_iro rfl rfl hx2210 rfl ?_
          obtain ⟨x2213, h2214, h2288⟩ := bnd h2288
          refine go ?_;intros
          refine r_ire (xs := v2136) rfl rfl h2214 rfl ?_
          refine go ?_;intros
          refine r_lop (f := (eSl true 33 eBool)) (g := eBool) (xs := v2136) (x := x2213) (idx_get h2214).2 rfl rfl rfl fun b2215 c2216 => ?_
          obtain ⟨x2217, h2218, h2288⟩ := bnd h2288
          refine go ?_;intros
          refine r_iro rfl rfl h2218 rfl ?_
          obtain ⟨x2219, h2220, h2288⟩ := bnd h2288
          refine go ?_;intros
          refine r_ire (xs := x2213) rfl rfl h2220 rfl ?_
          refine go ?_;intros
          refine r_shut ?_
          refine go ?_;intros
          refine r_lde (f := eBool) (xs := x2213) (x := x2219) rfl rfl (idx_get h2220).2 rfl rfl rfl ?_
          refine go ?_;intros
          refine k_sh0 (f := (eSl true 33 eBool)) (g := eBool) (idx_get h2214).2 ?_
          refine go ?_;intros
          rw [hw2211]
          exact k_ln2 _ (Nat.lt_succ_self _) ⟨_, _, _, _, _, _, _, _, _, h2288, rfl, drop_next hd2207, pin, pinh⟩
         replace h2288 := itf h2288 c
         try rw [c]
         refine go ?_;intros
         cases h2288
         exact k_cn ⟨_, _, _, _, _, pin, pinh⟩
       rintro t o ⟨b2223, b2224, c2225, b2226, b2227, pq1, pq2⟩
       refine pinnedQ pq1 pq2 ?_
       obtain ⟨x2228, h2229, h2287⟩ := bnd h2287
       refine go ?_;intros
       refine r_ire (xs := v2136) rfl rfl h2229 rfl ?_
       refine go ?_;intros
       refine r_lop (f := (eSl true 33 eBool)) (g := eBool) (xs := v2136) (x := x2228) (idx_get h2229).2 rfl rfl rfl fun b2230 c2231 => ?_
       obtain ⟨x2232, h2233, h2287⟩ := bnd h2287
       refine go ?_;intros
       refine r_ire (xs := x2228) rfl rfl h2233 rfl ?_
       refine go ?_;intros
       refine r_shut ?_
       refine go ?_;intros
       refine c_ste (f := eBool) x2228 q2195.1 (idx_get h2233).2 ?_
       refine go ?_;intros
       refine k_sh (f := (eSl true 33 eBool)) (g := eBool) (List.set x2228 (k2140 : Int).toNat q2195.1) (idx_get h2229).2 ?_
       refine go ?_;intros
       rw [hw2147]
       exact k_ln2 _ (Nat.lt_succ_self _) ⟨_, _, _, _, _, _, _, h2287, rfl, drop_next hd2143, pin, pinh⟩
      replace h2287 := itf h2287 c
      rw [c]
      obtain ⟨q2239, h2289, h2287⟩ := bnd h2287
      refine go ?_;intros
      refine w_last (fun t o => ∃ b2246 b2247 c2248 b2249 b2250, Pin t (ovr [(3, .ptr 24 b2246 210 0 0), (5, .ref 120 b2247 c2248 0 v2136.length 241), (6, .v (.int .i64 (k1712 : Int))), (7, .ptr 56 b2249 115 0 0), (8, .v (.int .i64 (k2140 : Int))), (10, .v (.bool false)), (17, .ro (List.map (eCommit false) a0.commits)), (18, .v (.int .i64 (a0.commits.length : Int))), (19, .v (.int .i64 (k1712 : Int))), (32, .ro (List.map (eCommit false) a1.commits)), (33, .v (.int .i64 (a1.commits.length : Int))), (34, .v (.int .i64 (k2140 : Int))), (45, .ptr 56 b2249 115 0 1), (46, .ro (List.map (eFeat false) x1713.sheet)), (47, .ptr 72 b2250 115 0 1), (48, .ro (List.map (eFeat false) x2141.sheet)), (49, .v (.bool false))] t) ∧ PinH o (ovh [(24, ⟨b2246, 1, 210, true, [[.sl false 3 (List.map (eCommit false) a1.commits), .sl false 2 (List.map eHead a1.heads)]]⟩), (120, ent b2247 c2248 241 (List.map (eSl true 33 eBool) v2136)), (56, ⟨b2249, 1, 115, true, [[.sl false 1 (List.map eInt x1713.up), .sl false 4 (List.map (eFeat false) x1713.sheet), .v (.string x1713.note)]]⟩), (72, ⟨b2250, 1, 115, true, [[.sl false 1 (List.map eInt x2141.up), .sl false 4 (List.map (eFeat false) x2141.sheet), .v (.string x2141.note)]]⟩)] o)) ?_ ?_
      ·refine w_loop2 (fun n t o => ∃ n2245  b2240 b2241 c2242 b2243 b2244, gl_av9_52 x1713 n2245  = some q2239 ∧ n2245 = n ∧ Pin t (ovr [(3, .ptr 24 b2240 210 0 0), (5, .ref 120 b2241 c2242 0 v2136.length 241), (6, .v (.int .i64 (k1712 : Int))), (7, .ptr 56 b2243 115 0 0), (8, .v (.int .i64 (k2140 : Int))), (9, .ptr 72 b2244 115 0 0), (10, .v (.bool false)), (11, .v (.int .i64 0)), (17, .ro (List.map (eCommit false) a0.commits)), (18, .v (.int .i64 (a0.commits.length : Int))), (19, .v (.int .i64 (k1712 : Int))), (32, .ro (List.map (eCommit false) a1.commits)), (33, .v (.int .i64 (a1.commits.length : Int))), (34, .v (.int .i64 (k2140 : Int))), (45, .ptr 56 b2243 115 0 1), (46, .ro (List.map (eFeat false) x1713.sheet)), (47, .ptr 72 b2244 115 0 1), (48, .ro (List.map (eFeat false) x2141.sheet)), (49, .v (.bool false))] t) ∧ PinH o (ovh [(24, ⟨b2240, 1, 210, true, [[.sl false 3 (List.map (eCommit false) a1.commits), .sl false 2 (List.map eHead a1.heads)]]⟩), (120, ent b2241 c2242 241 (List.map (eSl true 33 eBool) v2136)), (56, ⟨b2243, 1, 115, true, [[.sl false 1 (List.map eInt x1713.up), .sl false 4 (List.map (eFeat false) x1713.sheet), .v (.string x1713.note)]]⟩), (72, ⟨b2244, 1, 115, true, [[.sl false 1 (List.map eInt x2141.up), .sl false 4 (List.map (eFeat false) x2141.sheet), .v (.string x2141.note)]]⟩)] o)) _ ⟨_, _, _, _, _, _, h2289, rfl, pin, pinh⟩ ?_
       rintro n t o ⟨n2245, b2240, b2241, c2242, b2243, b2244, h2289, rfl, pq1, pq2⟩
       refine pinned pq1 pq2 ?_
       cases n2245 with
       | zero => rw [gl_av9_52] at h2289; cases h2289
       | succ n2245 =>
        rw [gl_av9_52] at h2289
        refine go ?_;intros
        refine s_split rfl (fun c => ?_) (fun c => ?_)
        ·replace h2289 := itt h2289 (by first | exact c | (have c2 := c; simp only [List.length_map] at c2; exact c2))
         rw [c]
         refine go ?_;intros
         cases h2289
         exact k_cn ⟨_, _, _, _, _, pin, pinh⟩
        replace h2289 := itf h2289 (by first | exact c | (have c2 := c; simp only [List.length_map] at c2; exact c2))
        rw [c]
        refine go ?_;intros
        cases h2289
        exact k_cn ⟨_, _, _, _, _, pin, pinh⟩
      rintro t o ⟨b2246, b2247, c2248, b2249, b2250, pq1, pq2⟩
      refine pinnedQ pq1 pq2 ?_
      obtain ⟨x2251, h2252, h2287⟩ := bnd h2287
      refine go ?_;intros
      refine r_ire (xs := v2136) rfl rfl h2252 rfl ?_
      refine go ?_;intros
      refine r_lop (f := (eSl true 33 eBool)) (g := eBool) (xs := v2136) (x := x2251) (idx_get h2252).2 rfl rfl rfl fun b2253 c2254 => ?_
      obtain ⟨x2255, h2256, h2287⟩ := bnd h2287
      refine go ?_;intros
      refine r_ire (xs := x2251) rfl rfl h2256 rfl ?_
      refine go ?_;intros
      refine r_shut ?_
      refine go ?_;intros
      refine c_ste (f := eBool) x2251 false (idx_get h2256).2 ?_
      refine go ?_;intros
      refine k_sh (f := (eSl true 33 eBool)) (g := eBool) (List.set x2251 (k2140 : Int).toNat false) (idx_get h2252).2 ?_
      refine go ?_;intros
      rw [hw2147]
      exact k_ln2 _ (Nat.lt_succ_self _) ⟨_, _, _, _, _, _, _, h2287, rfl, drop_next hd2143, pin, pinh⟩
     replace h2287 := itf h2287 c
     rw [c]
     obtain ⟨q2262, h2290, h2287⟩ := bnd h2287
     refine go ?_;intros
     refine w_last (fun t o => ∃ b2269 b2270 c2271 b2272, Pin t (ovr [(3, .ptr 24 b2269 210 0 0), (5, .ref 120 b2270 c2271 0 v2136.length 241), (6, .v (.int .i64 (k1712 : Int))), (7, .ptr 56 b2272 115 0 0), (8, .v (.int .i64 (k2140 : Int))), (10, .v (.bool false)), (17, .ro (List.map (eCommit false) a0.commits)), (18, .v (.int .i64 (a0.commits.length : Int))), (19, .v (.int .i64 (k1712 : Int))), (32, .ro (List.map (eCommit false) a1.commits)), (33, .v (.int .i64 (a1.commits.length : Int))), (34, .v (.int .i64 (k2140 : Int)))] t) ∧ PinH o (ovh [(24, ⟨b2269, 1, 210, true, [[.sl false 3 (List.map (eCommit false) a1.commits), .sl false 2 (List.map eHead a1.heads)]]⟩), (120, ent b2270 c2271 241 (List.map (eSl true 33 eBool) v2136)), (56, ⟨b2272, 1, 115, true, [[.sl false 1 (List.map eInt x1713.up), .sl false 4 (List.map (eFeat false) x1713.sheet), .v (.string x1713.note)]]⟩)] o)) ?_ ?_
     ·refine w_loop2 (fun n t o => ∃ n2268  b2263 b2264 c2265 b2266 b2267, gl_av9_53 x1713 n2268  = some q2262 ∧ n2268 = n ∧ Pin t (ovr [(3, .ptr 24 b2263 210 0 0), (5, .ref 120 b2264 c2265 0 v2136.length 241), (6, .v (.int .i64 (k1712 : Int))), (7, .ptr 56 b2266 115 0 0), (8, .v (.int .i64 (k2140 : Int))), (9, .ptr 72 b2267 115 0 0), (10, .v (.bool false)), (11, .v (.int .i64 0)), (17, .ro (List.map (eCommit false) a0.commits)), (18, .v (.int .i64 (a0.commits.length : Int))), (19, .v (.int .i64 (k1712 : Int))), (32, .ro (List.map (eCommit false) a1.commits)), (33, .v (.int .i64 (a1.commits.length : Int))), (34, .v (.int .i64 (k2140 : Int)))] t) ∧ PinH o (ovh [(24, ⟨b2263, 1, 210, true, [[.sl false 3 (List.map (eCommit false) a1.commits), .sl false 2 (List.map eHead a1.heads)]]⟩), (120, ent b2264 c2265 241 (List.map (eSl true 33 eBool) v2136)), (56, ⟨b2266, 1, 115, true, [[.sl false 1 (List.map eInt x1713.up), .sl false 4 (List.map (eFeat false) x1713.sheet), .v (.string x1713.note)]]⟩), (72, ⟨b2267, 1, 115, true, [[.sl false 1 (List.map eInt x2141.up), .sl false 4 (List.map (eFeat false) x2141.sheet), .v (.string x2141.note)]]⟩)] o)) _ ⟨_, _, _, _, _, _, h2290, rfl, pin, pinh⟩ ?_
      rintro n t o ⟨n2268, b2263, b2264, c2265, b2266, b2267, h2290, rfl, pq1, pq2⟩
      refine pinned pq1 pq2 ?_
      cases n2268 with
      | zero => rw [gl_av9_53] at h2290; cases h2290
      | succ n2268 =>
       rw [gl_av9_53] at h2290
       refine go ?_;intros
       refine s_split rfl (fun c => ?_) (fun c => ?_)
       ·replace h2290 := itt h2290 (by first | exact c | (have c2 := c; simp only [List.length_map] at c2; exact c2))
        rw [c]
        refine go ?_;intros
        cases h2290
        exact k_cn ⟨_, _, _, _, pin, pinh⟩
       replace h2290 := itf h2290 (by first | exact c | (have c2 := c; simp only [List.length_map] at c2; exact c2))
       rw [c]
       refine go ?_;intros
       cases h2290
       exact k_cn ⟨_, _, _, _, pin, pinh⟩
     rintro t o ⟨b2269, b2270, c2271, b2272, pq1, pq2⟩
     refine pinnedQ pq1 pq2 ?_
     obtain ⟨x2273, h2274, h2287⟩ := bnd h2287
     refine go ?_;intros
     refine r_ire (xs := v2136) rfl rfl h2274 rfl ?_
     refine go ?_;intros
     refine r_lop (f := (eSl true 33 eBool)) (g := eBool) (xs := v2136) (x := x2273) (idx_get h2274).2 rfl rfl rfl fun b2275 c2276 => ?_
     obtain ⟨x2277, h2278, h2287⟩ := bnd h2287
     refine go ?_;intros
     refine r_ire (xs := x2273) rfl rfl h2278 rfl ?_
     refine go ?_;intros
     refine r_shut ?_
     refine go ?_;intros
     refine c_ste (f := eBool) x2273 false (idx_get h2278).2 ?_
     refine go ?_;intros
     refine k_sh (f := (eSl true 33 eBool)) (g := eBool) (List.set x2273 (k2140 : Int).toNat false) (idx_get h2274).2 ?_
     refine go ?_;intros
     rw [hw2147]
     exact k_ln2 _ (Nat.lt_succ_self _) ⟨_, _, _, _, _, _, _, h2287, rfl, drop_next hd2143, pin, pinh⟩
   rintro t o ⟨b2279, b2281, c2282, pq1, pq2⟩
   refine pinnedQ pq1 pq2 ?_
   refine go ?_;intros
   rw [hw1719]
   exact k_ln2 _ (Nat.lt_succ_self _) ⟨_, _, _, _, _, _, h2286, rfl, drop_next hd1715, pin, pinh⟩
 rintro t o ⟨b2284, c2285, pq1, pq2⟩
 refine pinnedQ pq1 pq2 ?_
 refine go ?_;intros
 cases h
 exact r_end
end Go.Proofs.AM
