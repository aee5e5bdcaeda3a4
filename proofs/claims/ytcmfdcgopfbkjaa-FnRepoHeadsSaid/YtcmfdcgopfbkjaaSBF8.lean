/- A part of the proofs of this seat's statements (SBF8): lemmas on an abstract machine for the program's functions. Conditions: none. -/
import Derived.Test.YtcmfdcgopfbkjaaSBD
set_option linter.unusedVariables false
set_option linter.unusedSimpArgs false
set_option maxRecDepth 100000
set_option maxHeartbeats 4000000
namespace Go.Proofs.AM
attribute [local irreducible] vwp vstps vstpLs vstp vdo vret kseq kblk kloop kend kcut kloop2 frzV renV shutK pfzV trnV unrV
theorem d_impl_cloneCommit {G : Gam} (H_impl_cloneSheet : Has G c_impl_cloneSheet) (a0 : Commit) (r : Commit) (h : gf_impl_cloneCommit a0 = some r) : Does G if_impl_cloneCommit ks_impl_cloneCommit (c_impl_cloneCommit.args (a0)) [] (c_impl_cloneCommit.ans (a0) r) := by
  refine does_pn (L := [(0, .agg [.ro (List.map eInt a0.up), .ro (List.map (eFeat false) a0.sheet), .v (.string a0.note)])]) (fun bs => pin) fun bs t o => ?_
  show vwp _ ib_impl_cloneCommit _ _
  unfold ib_impl_cloneCommit
  refine w_ir ?_
  unfold gf_impl_cloneCommit at h
  obtain ⟨h6, h⟩ := gd h
  refine go ?_; intros
  refine r_app (f := eInt) (xs := ([] : (List Int))) (ys := a0.up) rfl (src_ro (fun _ => rfl) (fun _ => rfl)) rfl rfl (by first | rfl | simp) h6 fun b4 c5 => ?_
  obtain ⟨x7, h8, h⟩ := bnd h
  refine go ?_; intros
  refine c_call (c := c_impl_cloneSheet) (a0.sheet) H_impl_cloneSheet h8 fun ch => ?_
  refine go ?_; intros
  cases h
  exact r_end
theorem d_impl_RepoOk {G : Gam} (H_impl_within : Has G c_impl_within) (H_impl_SheetOk : Has G c_impl_SheetOk) (H_impl_WordOk : Has G c_impl_WordOk) (H_impl_Repo_commit : Has G c_impl_Repo_commit) (H_slices_Contains_int_int : Has G c_slices_Contains_int_int) (H_impl_Repo_head : Has G c_impl_Repo_head) (H_impl_Repo_version : Has G c_impl_Repo_version) (a0 : Repo) (r : Bool) (h : gf_impl_RepoOk a0 = some r) : Does G if_impl_RepoOk ks_impl_RepoOk (c_impl_RepoOk.args (a0)) [] (c_impl_RepoOk.ans (a0) r) := by
  refine does_pn (L := [(0, .agg [.ro (List.map (eCommit false) a0.commits), .ro (List.map eHead a0.heads)])]) (fun bs => pin) fun bs t o => ?_
  show vwp _ ib_impl_RepoOk _ _
  unfold ib_impl_RepoOk
  refine w_ir ?_
  unfold gf_impl_RepoOk at h
  obtain ⟨x2, h3, h⟩ := bnd h
  refine go ?_; intros
  refine c_call (c := c_impl_within) ((a0.commits.length : Int), 1, 14) H_impl_within h3 fun ch => ?_
  refine go ?_; intros
  refine s_split rfl (fun c => ?_) (fun c => ?_)
  · replace h := itt h c
    rw [c]
    refine go ?_; intros
    cases h
    exact r_end
  replace h := itf h c
  rw [c]
  obtain ⟨x4, h5, h⟩ := bnd h
  refine go ?_; intros
  refine c_call (c := c_impl_within) ((a0.heads.length : Int), 1, 4) H_impl_within h5 fun ch => ?_
  refine go ?_; intros
  refine w_cond rfl (fun c => ?_) (fun c => ?_)
  · replace h := itt h c
    try rw [c]
    refine go ?_; intros
    cases h
    exact r_end
  replace h := itf h c
  try rw [c]
  obtain ⟨hf197, h⟩ := gd h
  obtain ⟨q186, h305, h⟩ := bnd h
  refine go ?_; intros
  refine w_last (fun t o => ∃ q186_, q186 = .inr q186_ ∧ ∃ b255, Pin t (ovr [(1, .ptr 8 b255 210 0 0)] t) ∧ PinH o (ovh [(8, ⟨b255, 1, 210, true, [[.sl false 3 (List.map (eCommit false) a0.commits), .sl false 2 (List.map eHead a0.heads)]]⟩)] o)) ?_ ?_
  · refine w_loop2 (fun n t o => ∃ l191 k189  b188, gl_impl_RepoOk_4 a0 l191 k189  = some q186 ∧ n = l191.length ∧ (a0.commits).drop k189 = l191 ∧ Pin t (ovr [(1, .ptr 8 b188 210 0 0), (22, .ro (List.map (eCommit false) a0.commits)), (23, .v (.int .i64 (a0.commits.length : Int))), (24, .v (.int .i64 (k189 : Int)))] t) ∧ PinH o (ovh [(8, ⟨b188, 1, 210, true, [[.sl false 3 (List.map (eCommit false) a0.commits), .sl false 2 (List.map eHead a0.heads)]]⟩)] o)) _ ⟨_, _, _, h305, rfl, rfl, pin, pinh⟩ ?_
    rintro n t o ⟨l191, k189, b188, h305, rfl, hd192, pq1, pq2⟩
    refine pinned pq1 pq2 ?_
    cases l191 with
    | nil =>
      have hge194 := drop_ge hd192
      rw [gl_impl_RepoOk_4] at h305
      refine go ?_; intros
      rw [hge194]
      refine go ?_; intros
      cases h305
      exact k_cn ⟨_, rfl, _, pin, pinh⟩
    | cons x190 l191 =>
      have hlt193 := drop_lt hd192
      have hx195 := drop_ix hd192
      have hw196 := drop_wr hd192 hf197
      rw [gl_impl_RepoOk_4] at h305
      refine go ?_; intros
      rw [hlt193]
      refine go ?_; intros
      refine r_iro rfl rfl hx195 rfl ?_
      obtain ⟨x199, h200, h305⟩ := bnd h305
      refine go ?_; intros
      refine c_call (c := c_impl_SheetOk) (x190.sheet) H_impl_SheetOk h200 fun ch => ?_
      refine go ?_; intros
      refine s_split rfl (fun c => ?_) (fun c => ?_)
      · replace h305 := itt h305 c
        rw [c]
        refine go ?_; intros
        cases h305
        replace h : some _ = some _ := h
        cases h
        exact r_end
      replace h305 := itf h305 c
      rw [c]
      obtain ⟨x201, h202, h305⟩ := bnd h305
      refine go ?_; intros
      refine c_call (c := c_impl_WordOk) (x190.note) H_impl_WordOk h202 fun ch => ?_
      refine go ?_; intros
      refine s_split rfl (fun c => ?_) (fun c => ?_)
      · replace h305 := itt h305 c
        rw [c]
        refine go ?_; intros
        cases h305
        replace h : some _ = some _ := h
        cases h
        exact r_end
      replace h305 := itf h305 c
      rw [c]
      obtain ⟨x203, h204, h305⟩ := bnd h305
      refine go ?_; intros
      refine c_call (c := c_impl_Repo_commit) (a0, x190) H_impl_Repo_commit h204 fun ch => ?_
      refine go ?_; intros
      refine s_split rfl (fun c => ?_) (fun c => ?_)
      · replace h305 := itt h305 c
        rw [c]
        refine go ?_; intros
        cases h305
        replace h : some _ = some _ := h
        cases h
        exact r_end
      replace h305 := itf h305 c
      rw [c]
      refine go ?_; intros
      refine s_split rfl (fun c => ?_) (fun c => ?_)
      · replace h305 := itt h305 (by first | exact c | (have c2 := c; simp only [List.length_map] at c2; exact c2))
        rw [c]
        refine go ?_; intros
        cases h305
        replace h : some _ = some _ := h
        cases h
        exact r_end
      replace h305 := itf h305 (by first | exact c | (have c2 := c; simp only [List.length_map] at c2; exact c2))
      rw [c]
      refine go ?_; intros
      refine w_cond rfl (fun c => ?_) (fun c => ?_)
      · replace h305 := itt h305 (by first | exact c | (have c2 := c; simp only [List.length_map] at c2; exact c2))
        try rw [c]
        refine go ?_; intros
        cases h305
        replace h : some _ = some _ := h
        cases h
        exact r_end
      replace h305 := itf h305 (by first | exact c | (have c2 := c; simp only [List.length_map] at c2; exact c2))
      try rw [c]
      obtain ⟨hf246, h305⟩ := gd h305
      obtain ⟨q234, h306, h305⟩ := bnd h305
      refine go ?_; intros
      refine w_last (fun t o => ∃ q234_, q234 = .inr q234_ ∧ ∃ b253 b254, Pin t (ovr [(1, .ptr 8 b253 210 0 0), (22, .ro (List.map (eCommit false) a0.commits)), (23, .v (.int .i64 (a0.commits.length : Int))), (24, .v (.int .i64 (k189 : Int))), (34, .ptr 32 b254 115 0 2), (35, .v (.string x190.note)), (36, .v (.bool x201)), (37, .v (.bool false)), (40, .agg [.ro (List.map (eCommit false) a0.commits), .ro (List.map eHead a0.heads)]), (41, .agg [.ro (List.map eInt x190.up), .ro (List.map (eFeat false) x190.sheet), .v (.string x190.note)]), (42, .v (.int .i64 x203)), (43, .v (.int .i64 (k189 : Int))), (44, .v (.bool false)), (47, .v (.int .i64 (k189 : Int))), (48, .v (.bool ((k189 : Int) == 0))), (49, .ptr 32 b254 115 0 0), (50, .ro (List.map eInt x190.up)), (51, .v (.int .i64 (x190.up.length : Int))), (52, .v (.bool ((x190.up.length : Int) == 0))), (53, .v (.bool false)), (56, .ptr 32 b254 115 0 0), (57, .ro (List.map eInt x190.up)), (58, .v (.int .i64 (x190.up.length : Int))), (59, .v (.bool false))] t) ∧ PinH o (ovh [(8, ⟨b253, 1, 210, true, [[.sl false 3 (List.map (eCommit false) a0.commits), .sl false 2 (List.map eHead a0.heads)]]⟩), (32, ⟨b254, 1, 115, true, [[.sl false 1 (List.map eInt x190.up), .sl false 4 (List.map (eFeat false) x190.sheet), .v (.string x190.note)]]⟩)] o)) ?_ ?_
      · refine w_loop2 (fun n t o => ∃ l240 k238  b236 b237, gl_impl_RepoOk_5 k189 x190 l240 k238  = some q234 ∧ n = l240.length ∧ (x190.up).drop k238 = l240 ∧ Pin t (ovr [(1, .ptr 8 b236 210 0 0), (3, .v (.int .i64 (k189 : Int))), (4, .ptr 32 b237 115 0 0), (22, .ro (List.map (eCommit false) a0.commits)), (23, .v (.int .i64 (a0.commits.length : Int))), (24, .v (.int .i64 (k189 : Int))), (34, .ptr 32 b237 115 0 2), (35, .v (.string x190.note)), (36, .v (.bool x201)), (37, .v (.bool false)), (40, .agg [.ro (List.map (eCommit false) a0.commits), .ro (List.map eHead a0.heads)]), (41, .agg [.ro (List.map eInt x190.up), .ro (List.map (eFeat false) x190.sheet), .v (.string x190.note)]), (42, .v (.int .i64 x203)), (43, .v (.int .i64 (k189 : Int))), (44, .v (.bool false)), (47, .v (.int .i64 (k189 : Int))), (48, .v (.bool ((k189 : Int) == 0))), (49, .ptr 32 b237 115 0 0), (50, .ro (List.map eInt x190.up)), (51, .v (.int .i64 (x190.up.length : Int))), (52, .v (.bool ((x190.up.length : Int) == 0))), (53, .v (.bool false)), (56, .ptr 32 b237 115 0 0), (57, .ro (List.map eInt x190.up)), (58, .v (.int .i64 (x190.up.length : Int))), (59, .v (.bool false)), (62, .ro (List.map eInt x190.up)), (63, .v (.int .i64 (x190.up.length : Int))), (64, .v (.int .i64 (k238 : Int)))] t) ∧ PinH o (ovh [(8, ⟨b236, 1, 210, true, [[.sl false 3 (List.map (eCommit false) a0.commits), .sl false 2 (List.map eHead a0.heads)]]⟩), (32, ⟨b237, 1, 115, true, [[.sl false 1 (List.map eInt x190.up), .sl false 4 (List.map (eFeat false) x190.sheet), .v (.string x190.note)]]⟩)] o)) _ ⟨_, _, _, _, h306, rfl, rfl, pin, pinh⟩ ?_
        rintro n t o ⟨l240, k238, b236, b237, h306, rfl, hd241, pq1, pq2⟩
        refine pinned pq1 pq2 ?_
        cases l240 with
        | nil =>
          have hge243 := drop_ge hd241
          rw [gl_impl_RepoOk_5] at h306
          refine go ?_; intros
          rw [hge243]
          refine go ?_; intros
          cases h306
          exact k_cn ⟨_, rfl, _, _, pin, pinh⟩
        | cons x239 l240 =>
          have hlt242 := drop_lt hd241
          have hx244 := drop_ix hd241
          have hw245 := drop_wr hd241 hf246
          rw [gl_impl_RepoOk_5] at h306
          refine go ?_; intros
          rw [hlt242]
          refine go ?_; intros
          refine r_iro rfl rfl hx244 rfl ?_
          obtain ⟨x247, h248, h306⟩ := bnd h306
          refine go ?_; intros
          refine c_call (c := c_impl_within) (x239, 0, (IntKind.i64.wrap ((k189 : Int) - 1))) H_impl_within h248 fun ch => ?_
          refine go ?_; intros
          refine s_split rfl (fun c => ?_) (fun c => ?_)
          · replace h306 := itt h306 c
            rw [c]
            refine go ?_; intros
            cases h306
            replace h305 : some _ = some _ := h305
            cases h305
            replace h : some _ = some _ := h
            cases h
            exact r_end
          replace h306 := itf h306 c
          rw [c]
          obtain ⟨x249, h250, h306⟩ := bnd h306
          refine go ?_; intros
          refine r_sls (f := eInt) rfl rfl rfl h250 (fun _ => rfl) ?_
          obtain ⟨x251, h252, h306⟩ := bnd h306
          refine go ?_; intros
          refine c_call (c := c_slices_Contains_int_int) (x249, x239) H_slices_Contains_int_int h252 fun ch => ?_
          refine go ?_; intros
          refine w_cond rfl (fun c => ?_) (fun c => ?_)
          · replace h306 := itt h306 c
            try rw [c]
            refine go ?_; intros
            cases h306
            replace h305 : some _ = some _ := h305
            cases h305
            replace h : some _ = some _ := h
            cases h
            exact r_end
          replace h306 := itf h306 c
          try rw [c]
          refine go ?_; intros
          rw [hw245]
          exact k_ln2 _ (Nat.lt_succ_self _) ⟨_, _, _, _, h306, rfl, drop_next hd241, pin, pinh⟩
      rintro t o ⟨q234, rfl, b253, b254, pq1, pq2⟩
      refine pinnedQ pq1 pq2 ?_
      refine go ?_; intros
      rw [hw196]
      exact k_ln2 _ (Nat.lt_succ_self _) ⟨_, _, _, h305, rfl, drop_next hd192, pin, pinh⟩
  rintro t o ⟨q186, rfl, b255, pq1, pq2⟩
  refine pinnedQ pq1 pq2 ?_
  obtain ⟨hf297, h⟩ := gd h
  obtain ⟨q286, h307, h⟩ := bnd h
  refine go ?_; intros
  refine w_last (fun t o => ∃ q286_, q286 = .inr q286_ ∧ Pin t (ovr [] t) ∧ PinH o (ovh [] o)) ?_ ?_
  · refine w_loop2 (fun n t o => ∃ l291 k289  b288, gl_impl_RepoOk_6 a0 l291 k289  = some q286 ∧ n = l291.length ∧ (a0.heads).drop k289 = l291 ∧ Pin t (ovr [(1, .ptr 8 b288 210 0 0), (85, .ro (List.map eHead a0.heads)), (86, .v (.int .i64 (a0.heads.length : Int))), (87, .v (.int .i64 (k289 : Int)))] t) ∧ PinH o (ovh [(8, ⟨b288, 1, 210, true, [[.sl false 3 (List.map (eCommit false) a0.commits), .sl false 2 (List.map eHead a0.heads)]]⟩)] o)) _ ⟨_, _, _, h307, rfl, rfl, pin, pinh⟩ ?_
    rintro n t o ⟨l291, k289, b288, h307, rfl, hd292, pq1, pq2⟩
    refine pinned pq1 pq2 ?_
    cases l291 with
    | nil =>
      have hge294 := drop_ge hd292
      rw [gl_impl_RepoOk_6] at h307
      refine go ?_; intros
      rw [hge294]
      refine go ?_; intros
      cases h307
      exact k_cn ⟨_, rfl, pin, pinh⟩
    | cons x290 l291 =>
      have hlt293 := drop_lt hd292
      have hx295 := drop_ix hd292
      have hw296 := drop_wr hd292 hf297
      rw [gl_impl_RepoOk_6] at h307
      refine go ?_; intros
      rw [hlt293]
      refine go ?_; intros
      refine r_iro rfl rfl hx295 rfl ?_
      obtain ⟨x299, h300, h307⟩ := bnd h307
      refine go ?_; intros
      refine c_call (c := c_impl_WordOk) (x290.name) H_impl_WordOk h300 fun ch => ?_
      refine go ?_; intros
      refine s_split rfl (fun c => ?_) (fun c => ?_)
      · replace h307 := itt h307 c
        rw [c]
        refine go ?_; intros
        cases h307
        replace h : some _ = some _ := h
        cases h
        exact r_end
      replace h307 := itf h307 c
      rw [c]
      obtain ⟨x301, h302, h307⟩ := bnd h307
      refine go ?_; intros
      refine c_call (c := c_impl_Repo_head) (a0, x290.name) H_impl_Repo_head h302 fun ch => ?_
      refine go ?_; intros
      refine s_split rfl (fun c => ?_) (fun c => ?_)
      · replace h307 := itt h307 c
        rw [c]
        refine go ?_; intros
        cases h307
        replace h : some _ = some _ := h
        cases h
        exact r_end
      replace h307 := itf h307 c
      rw [c]
      obtain ⟨x303, h304, h307⟩ := bnd h307
      refine go ?_; intros
      refine c_call (c := c_impl_Repo_version) (a0, x290.at_) H_impl_Repo_version h304 fun ch => ?_
      refine go ?_; intros
      refine w_cond rfl (fun c => ?_) (fun c => ?_)
      · replace h307 := itt h307 c
        try rw [c]
        refine go ?_; intros
        cases h307
        replace h : some _ = some _ := h
        cases h
        exact r_end
      replace h307 := itf h307 c
      try rw [c]
      refine go ?_; intros
      rw [hw296]
      exact k_ln2 _ (Nat.lt_succ_self _) ⟨_, _, _, h307, rfl, drop_next hd292, pin, pinh⟩
  rintro t o ⟨q286, rfl, pq1, pq2⟩
  refine pinnedQ pq1 pq2 ?_
  refine go ?_; intros
  cases h
  exact r_end
theorem d_impl_Repo_past {G : Gam}  (a0 : Repo) (a1 : Int) (r : (List Bool)) (h : gf_impl_Repo_past a0 a1 = some r) : Does G if_impl_Repo_past ks_impl_Repo_past (c_impl_Repo_past.args (a0, a1)) [] (c_impl_Repo_past.ans (a0, a1) r) := by
  refine does_pn (L := [(0, .agg [.ro (List.map (eCommit false) a0.commits), .ro (List.map eHead a0.heads)]), (1, .v (.int .i64 a1))]) (fun bs => pin) fun bs t o => ?_
  show vwp _ ib_impl_Repo_past _ _
  unfold ib_impl_Repo_past
  refine w_ir ?_
  unfold gf_impl_Repo_past at h
  obtain ⟨h4, h⟩ := gd h
  refine go ?_; intros
  refine r_mks (f := eBool) (x := false) rfl rfl (band1 h4) (band2 h4) rfl fun b2 => ?_
  obtain ⟨x5, h6, h⟩ := bnd h
  refine go ?_; intros
  refine r_ire (xs := (List.replicate ((a0.commits.length : Int)).toNat false)) rfl rfl h6 rfl ?_
  refine go ?_; intros
  refine c_ste (f := eBool) (List.replicate ((a0.commits.length : Int)).toNat false) true (idx_get h6).2 ?_
  obtain ⟨q150, h205, h⟩ := bnd h
  refine go ?_; intros
  refine w_last (fun t o => ∃ b203 c204, Pin t (ovr [(5, .ref 96 b203 c204 0 q150.length 33)] t) ∧ PinH o (ovh [(96, ent b203 c204 33 (List.map eBool q150))] o)) ?_ ?_
  · refine w_loop2 (fun n t o => ∃ n156 v151 v153 b152 b154 c155, gl_impl_Repo_past_4 a0 n156 v151 v153 = some q150 ∧ n156 = n ∧ Pin t (ovr [(2, .ptr 16 b152 210 0 0), (5, .ref 96 b154 c155 0 v153.length 33), (6, .v (.int .i64 v151))] t) ∧ PinH o (ovh [(16, ⟨b152, 1, 210, true, [[.sl false 3 (List.map (eCommit false) a0.commits), .sl false 2 (List.map eHead a0.heads)]]⟩), (96, ent b154 c155 33 (List.map eBool v153))] o)) _ ⟨_, _, _, _, _, _, h205, rfl, pin, pinh⟩ ?_
    rintro n t o ⟨n156, v151, v153, b152, b154, c155, h205, rfl, pq1, pq2⟩
    refine pinned pq1 pq2 ?_
    cases n156 with
    | zero => rw [gl_impl_Repo_past_4] at h205; cases h205
    | succ n156 =>
      rw [gl_impl_Repo_past_4] at h205
      refine go ?_; intros
      refine w_cond rfl (fun c => ?_) (fun c => ?_)
      · replace h205 := itt h205 c
        try rw [c]
        obtain ⟨x157, h158, h205⟩ := bnd h205
        refine go ?_; intros
        refine r_ire (xs := v153) rfl rfl h158 rfl ?_
        refine go ?_; intros
        refine r_lde (f := eBool) (xs := v153) (x := x157) rfl rfl (idx_get h158).2 rfl rfl rfl ?_
        refine go ?_; intros
        refine w_cond rfl (fun c => ?_) (fun c => ?_)
        · replace h205 := itt h205 c
          try rw [c]
          obtain ⟨x159, h160, h205⟩ := bnd h205
          refine go ?_; intros
          refine r_iro rfl rfl h160 rfl ?_
          obtain ⟨hf195, h205⟩ := gd h205
          obtain ⟨q181, h206, h205⟩ := bnd h205
          refine go ?_; intros
          refine w_last (fun t o => ∃ b198 b200 c201, Pin t (ovr [(2, .ptr 16 b198 210 0 0), (5, .ref 96 b200 c201 0 q181.length 33), (6, .v (.int .i64 v151))] t) ∧ PinH o (ovh [(16, ⟨b198, 1, 210, true, [[.sl false 3 (List.map (eCommit false) a0.commits), .sl false 2 (List.map eHead a0.heads)]]⟩), (96, ent b200 c201 33 (List.map eBool q181))] o)) ?_ ?_
          · refine w_loop2 (fun n t o => ∃ l189 k187 v184 b183 b185 c186, gl_impl_Repo_past_5 l189 k187 v184 = some q181 ∧ n = l189.length ∧ (x159.up).drop k187 = l189 ∧ Pin t (ovr [(2, .ptr 16 b183 210 0 0), (5, .ref 96 b185 c186 0 v184.length 33), (6, .v (.int .i64 v151)), (30, .ro (List.map eInt x159.up)), (31, .v (.int .i64 (x159.up.length : Int))), (32, .v (.int .i64 (k187 : Int)))] t) ∧ PinH o (ovh [(16, ⟨b183, 1, 210, true, [[.sl false 3 (List.map (eCommit false) a0.commits), .sl false 2 (List.map eHead a0.heads)]]⟩), (96, ent b185 c186 33 (List.map eBool v184))] o)) _ ⟨_, _, _, _, _, _, h206, rfl, rfl, pin, pinh⟩ ?_
            rintro n t o ⟨l189, k187, v184, b183, b185, c186, h206, rfl, hd190, pq1, pq2⟩
            refine pinned pq1 pq2 ?_
            cases l189 with
            | nil =>
              have hge192 := drop_ge hd190
              rw [gl_impl_Repo_past_5] at h206
              refine go ?_; intros
              rw [hge192]
              refine go ?_; intros
              cases h206
              exact k_cn ⟨_, _, _, pin, pinh⟩
            | cons x188 l189 =>
              have hlt191 := drop_lt hd190
              have hx193 := drop_ix hd190
              have hw194 := drop_wr hd190 hf195
              rw [gl_impl_Repo_past_5] at h206
              refine go ?_; intros
              rw [hlt191]
              refine go ?_; intros
              refine r_iro rfl rfl hx193 rfl ?_
              obtain ⟨x196, h197, h206⟩ := bnd h206
              refine go ?_; intros
              refine r_ire (xs := v184) rfl rfl h197 rfl ?_
              refine go ?_; intros
              refine c_ste (f := eBool) v184 true (idx_get h197).2 ?_
              refine go ?_; intros
              rw [hw194]
              exact k_ln2 _ (Nat.lt_succ_self _) ⟨_, _, _, _, _, _, h206, rfl, drop_next hd190, pin, pinh⟩
          rintro t o ⟨b198, b200, c201, pq1, pq2⟩
          refine pinnedQ pq1 pq2 ?_
          refine go ?_; intros
          exact k_ln2 _ (Nat.lt_succ_self _) ⟨_, _, _, _, _, _, h205, rfl, pin, pinh⟩
        replace h205 := itf h205 c
        try rw [c]
        refine go ?_; intros
        exact k_ln2 _ (Nat.lt_succ_self _) ⟨_, _, _, _, _, _, h205, rfl, pin, pinh⟩
      replace h205 := itf h205 c
      try rw [c]
      refine go ?_; intros
      cases h205
      exact k_cn ⟨_, _, pin, pinh⟩
  rintro t o ⟨b203, c204, pq1, pq2⟩
  refine pinnedQ pq1 pq2 ?_
  refine go ?_; intros
  cases h
  exact r_end
theorem d_spec_l12Open {G : Gam}  (a0 : (List UInt8)) (g0 : Option Addr) (g1 : Nat) (r : Rd) (h : gf_spec_l12Open a0 = some r) : Does G if_spec_l12Open ks_spec_l12Open (c_spec_l12Open.args (a0, g0, g1)) [] (c_spec_l12Open.ans (a0, g0, g1) r) := by
  refine does_pn (L := [(0, .raw g0 g1 (List.map eU8 a0))]) (fun bs => pin) fun bs t o => ?_
  show vwp _ ib_spec_l12Open _ _
  unfold ib_spec_l12Open
  refine w_ir ?_
  unfold gf_spec_l12Open at h
  refine go ?_; intros
  refine w_cond rfl (fun c => ?_) (fun c => ?_)
  · replace h := itt h (by first | exact c | (have c2 := c; simp only [List.length_map] at c2; exact c2))
    try rw [c]
    obtain ⟨x1, h2, h⟩ := bnd h
    refine go ?_; intros
    refine r_slsraw (f := eU8) rfl rfl rfl h2 ?_
    refine go ?_; intros
    cases h
    exact r_end
  replace h := itf h (by first | exact c | (have c2 := c; simp only [List.length_map] at c2; exact c2))
  try rw [c]
  refine go ?_; intros
  cases h
  exact r_end
theorem d_spec_l12Rd_pick {G : Gam}  (a0 : Rd) (a1 : Int) (g0 : Option Addr) (g1 : Nat) (r : (Int × Int)) (h : gf_spec_l12Rd_pick a0 a1 = some r) : Does G if_spec_l12Rd_pick ks_spec_l12Rd_pick (c_spec_l12Rd_pick.args (a0, a1, g0, g1)) (c_spec_l12Rd_pick.ins (a0, a1, g0, g1)) (c_spec_l12Rd_pick.ans (a0, a1, g0, g1) r) := by
  refine does_pg (L := fun bs => [(0, .ptr 0 (bs 0).1 290 0 0), (1, .v (.int .i64 a1))]) (H := fun bs => [(0, ⟨(bs 0).1, (bs 0).2, 290, true, [[.rw g0 g1 (List.map eU8 a0.b), .v (.int .i64 a0.p)]]⟩)]) (fun bs => pin) (fun bs => pinh) fun bs t o => ?_
  show vwp _ ib_spec_l12Rd_pick _ _
  unfold ib_spec_l12Rd_pick
  refine w_ir ?_
  unfold gf_spec_l12Rd_pick at h
  refine go ?_; intros
  refine s_split rfl (fun c => ?_) (fun c => ?_)
  · replace h := itt h c
    rw [c]
    refine go ?_; intros
    cases h
    exact r_endg
  replace h := itf h c
  rw [c]
  refine go ?_; intros
  refine w_cond rfl (fun c => ?_) (fun c => ?_)
  · replace h := itt h (by first | exact c | (have c2 := c; simp only [List.length_map] at c2; exact c2))
    try rw [c]
    refine go ?_; intros
    cases h
    exact r_endg
  replace h := itf h (by first | exact c | (have c2 := c; simp only [List.length_map] at c2; exact c2))
  try rw [c]
  refine go ?_; intros
  refine w_cond rfl (fun c => ?_) (fun c => ?_)
  · replace h := itt h (by first | exact c | (have c2 := c; simp only [List.length_map] at c2; exact c2))
    try rw [c]
    obtain ⟨x1, h2, h⟩ := bnd h
    refine go ?_; intros
    refine r_iro rfl rfl h2 rfl ?_
    obtain ⟨x3, h4, h⟩ := bnd h
    refine go ?_; intros
    refine r_imod rfl rfl h4 ?_
    refine go ?_; intros
    cases h
    exact r_endg
  replace h := itf h (by first | exact c | (have c2 := c; simp only [List.length_map] at c2; exact c2))
  try rw [c]
  obtain ⟨x5, h6, h⟩ := bnd h
  refine go ?_; intros
  refine r_imod rfl rfl h6 ?_
  obtain ⟨x7, h8, h⟩ := bnd h
  refine go ?_; intros
  refine r_iro rfl rfl h8 rfl ?_
  obtain ⟨x9, h10, h⟩ := bnd h
  refine go ?_; intros
  refine r_imod rfl rfl h10 ?_
  obtain ⟨x11, h12, h⟩ := bnd h
  refine go ?_; intros
  refine r_iro rfl rfl h12 rfl ?_
  obtain ⟨x13, h14, h⟩ := bnd h
  refine go ?_; intros
  refine r_idiv rfl rfl h14 ?_
  refine go ?_; intros
  refine r_ixor rfl rfl ?_
  obtain ⟨x15, h16, h⟩ := bnd h
  refine go ?_; intros
  refine r_imod rfl rfl h16 ?_
  refine go ?_; intros
  cases h
  exact r_endg
theorem d_spec_l12Rd_of {G : Gam} (H_spec_l12Rd_pick : Has G c_spec_l12Rd_pick) (a0 : Rd) (a1 : (List Str)) (g0 : Option Addr) (g1 : Nat) (r : (Str × Int)) (h : gf_spec_l12Rd_of a0 a1 = some r) : Does G if_spec_l12Rd_of ks_spec_l12Rd_of (c_spec_l12Rd_of.args (a0, a1, g0, g1)) (c_spec_l12Rd_of.ins (a0, a1, g0, g1)) (c_spec_l12Rd_of.ans (a0, a1, g0, g1) r) := by
  refine does_pg (L := fun bs => [(0, .ptr 0 (bs 0).1 290 0 0), (1, .ro (List.map eStr a1))]) (H := fun bs => [(0, ⟨(bs 0).1, (bs 0).2, 290, true, [[.rw g0 g1 (List.map eU8 a0.b), .v (.int .i64 a0.p)]]⟩)]) (fun bs => pin) (fun bs => pinh) fun bs t o => ?_
  show vwp _ ib_spec_l12Rd_of _ _
  unfold ib_spec_l12Rd_of
  refine w_ir ?_
  unfold gf_spec_l12Rd_of at h
  obtain ⟨x1, h2, h⟩ := bnd h
  refine go ?_; intros
  refine c_callg (c := c_spec_l12Rd_pick) (a0, (a1.length : Int), g0, g1) H_spec_l12Rd_pick h2 fun ch => ?_
  obtain ⟨x3, h4, h⟩ := bnd h
  refine go ?_; intros
  refine r_iro rfl rfl h4 rfl ?_
  refine go ?_; intros
  cases h
  exact r_endg
theorem d_spec_l2Id {G : Gam} (H_spec_l12Rd_of : Has G c_spec_l12Rd_of) (a0 : Rd) (g0 : Option Addr) (g1 : Nat) (r : (Str × Int)) (h : gf_spec_l2Id a0 = some r) : Does G if_spec_l2Id ks_spec_l2Id (c_spec_l2Id.args (a0, g0, g1)) (c_spec_l2Id.ins (a0, g0, g1)) (c_spec_l2Id.ans (a0, g0, g1) r) := by
  refine does_pg (L := fun bs => [(0, .ptr 0 (bs 0).1 290 0 0)]) (H := fun bs => [(0, ⟨(bs 0).1, (bs 0).2, 290, true, [[.rw g0 g1 (List.map eU8 a0.b), .v (.int .i64 a0.p)]]⟩)]) (fun bs => pin) (fun bs => pinh) fun bs t o => ?_
  show vwp _ ib_spec_l2Id _ _
  unfold ib_spec_l2Id
  refine w_ir ?_
  unfold gf_spec_l2Id at h
  obtain ⟨x2, h3, h⟩ := bnd h
  refine go ?_; intros
  refine c_callg (c := c_spec_l12Rd_of) (a0, ([(⟨#[97]⟩ : Str), (⟨#[98]⟩ : Str), (⟨#[99]⟩ : Str), (⟨#[100]⟩ : Str), (⟨#[101]⟩ : Str)] : (List Str)), g0, g1) H_spec_l12Rd_of h3 fun ch => ?_
  refine go ?_; intros
  cases h
  exact r_endg
theorem d_spec_l2Key {G : Gam} (H_spec_l12Rd_of : Has G c_spec_l12Rd_of) (a0 : Rd) (g0 : Option Addr) (g1 : Nat) (r : (Str × Int)) (h : gf_spec_l2Key a0 = some r) : Does G if_spec_l2Key ks_spec_l2Key (c_spec_l2Key.args (a0, g0, g1)) (c_spec_l2Key.ins (a0, g0, g1)) (c_spec_l2Key.ans (a0, g0, g1) r) := by
  refine does_pg (L := fun bs => [(0, .ptr 0 (bs 0).1 290 0 0)]) (H := fun bs => [(0, ⟨(bs 0).1, (bs 0).2, 290, true, [[.rw g0 g1 (List.map eU8 a0.b), .v (.int .i64 a0.p)]]⟩)]) (fun bs => pin) (fun bs => pinh) fun bs t o => ?_
  show vwp _ ib_spec_l2Key _ _
  unfold ib_spec_l2Key
  refine w_ir ?_
  unfold gf_spec_l2Key at h
  obtain ⟨x2, h3, h⟩ := bnd h
  refine go ?_; intros
  refine c_callg (c := c_spec_l12Rd_of) (a0, ([(⟨#[110, 97, 109, 101]⟩ : Str), (⟨#[107, 105, 110, 100]⟩ : Str), (⟨#[117, 115, 101]⟩ : Str), (⟨#[116, 111, 110, 101]⟩ : Str)] : (List Str)), g0, g1) H_spec_l12Rd_of h3 fun ch => ?_
  refine go ?_; intros
  cases h
  exact r_endg
theorem d_spec_l2Val {G : Gam} (H_spec_l12Rd_of : Has G c_spec_l12Rd_of) (a0 : Rd) (g0 : Option Addr) (g1 : Nat) (r : (Str × Int)) (h : gf_spec_l2Val a0 = some r) : Does G if_spec_l2Val ks_spec_l2Val (c_spec_l2Val.args (a0, g0, g1)) (c_spec_l2Val.ins (a0, g0, g1)) (c_spec_l2Val.ans (a0, g0, g1) r) := by
  refine does_pg (L := fun bs => [(0, .ptr 0 (bs 0).1 290 0 0)]) (H := fun bs => [(0, ⟨(bs 0).1, (bs 0).2, 290, true, [[.rw g0 g1 (List.map eU8 a0.b), .v (.int .i64 a0.p)]]⟩)]) (fun bs => pin) (fun bs => pinh) fun bs t o => ?_
  show vwp _ ib_spec_l2Val _ _
  unfold ib_spec_l2Val
  refine w_ir ?_
  unfold gf_spec_l2Val at h
  obtain ⟨x2, h3, h⟩ := bnd h
  refine go ?_; intros
  refine c_callg (c := c_spec_l12Rd_of) (a0, ([(⟨#[97]⟩ : Str), (⟨#[98]⟩ : Str), (⟨#[111, 97, 107]⟩ : Str), (⟨#[97, 115, 104]⟩ : Str), (⟨#[114, 111, 97, 100]⟩ : Str)] : (List Str)), g0, g1) H_spec_l12Rd_of h3 fun ch => ?_
  refine go ?_; intros
  cases h
  exact r_endg
theorem d_spec_l12Rd_num {G : Gam} (H_spec_l12Rd_pick : Has G c_spec_l12Rd_pick) (a0 : Rd) (a1 : (List Int)) (g0 : Option Addr) (g1 : Nat) (r : (Int × Int)) (h : gf_spec_l12Rd_num a0 a1 = some r) : Does G if_spec_l12Rd_num ks_spec_l12Rd_num (c_spec_l12Rd_num.args (a0, a1, g0, g1)) (c_spec_l12Rd_num.ins (a0, a1, g0, g1)) (c_spec_l12Rd_num.ans (a0, a1, g0, g1) r) := by
  refine does_pg (L := fun bs => [(0, .ptr 0 (bs 0).1 290 0 0), (1, .ro (List.map eInt a1))]) (H := fun bs => [(0, ⟨(bs 0).1, (bs 0).2, 290, true, [[.rw g0 g1 (List.map eU8 a0.b), .v (.int .i64 a0.p)]]⟩)]) (fun bs => pin) (fun bs => pinh) fun bs t o => ?_
  show vwp _ ib_spec_l12Rd_num _ _
  unfold ib_spec_l12Rd_num
  refine w_ir ?_
  unfold gf_spec_l12Rd_num at h
  obtain ⟨x1, h2, h⟩ := bnd h
  refine go ?_; intros
  refine c_callg (c := c_spec_l12Rd_pick) (a0, (a1.length : Int), g0, g1) H_spec_l12Rd_pick h2 fun ch => ?_
  obtain ⟨x3, h4, h⟩ := bnd h
  refine go ?_; intros
  refine r_iro rfl rfl h4 rfl ?_
  refine go ?_; intros
  cases h
  exact r_endg
theorem d_spec_l1Pt {G : Gam} (H_spec_l12Rd_pick : Has G c_spec_l12Rd_pick) (H_spec_l12Rd_num : Has G c_spec_l12Rd_num) (a0 : Rd) (g0 : Option Addr) (g1 : Nat) (r : (Pt × Int)) (h : gf_spec_l1Pt a0 = some r) : Does G if_spec_l1Pt ks_spec_l1Pt (c_spec_l1Pt.args (a0, g0, g1)) (c_spec_l1Pt.ins (a0, g0, g1)) (c_spec_l1Pt.ans (a0, g0, g1) r) := by
  refine does_pg (L := fun bs => [(0, .ptr 0 (bs 0).1 290 0 0)]) (H := fun bs => [(0, ⟨(bs 0).1, (bs 0).2, 290, true, [[.rw g0 g1 (List.map eU8 a0.b), .v (.int .i64 a0.p)]]⟩)]) (fun bs => pin) (fun bs => pinh) fun bs t o => ?_
  show vwp _ ib_spec_l1Pt _ _
  unfold ib_spec_l1Pt
  refine w_ir ?_
  unfold gf_spec_l1Pt at h
  obtain ⟨x2, h3, h⟩ := bnd h
  refine go ?_; intros
  refine c_callg (c := c_spec_l12Rd_pick) (a0, 4, g0, g1) H_spec_l12Rd_pick h3 fun ch => ?_
  obtain ⟨x5, h6, h⟩ := bnd h
  refine go ?_; intros
  refine c_callg (c := c_spec_l12Rd_num) ((⟨a0.b, x2.2⟩ : Rd), ([0, 1, 2, 5] : (List Int)), g0, g1) H_spec_l12Rd_num h6 fun ch => ?_
  refine go ?_; intros
  cases h
  exact r_endg
end Go.Proofs.AM
