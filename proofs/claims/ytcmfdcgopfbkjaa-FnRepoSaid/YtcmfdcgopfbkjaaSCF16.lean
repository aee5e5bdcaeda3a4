/- A part of the proofs of this seat's statements (SCF16): lemmas on an abstract machine for the program's functions. Conditions: none. -/
import Derived.Test.YtcmfdcgopfbkjaaSCD
set_option linter.unusedVariables false
set_option maxRecDepth 100000
set_option maxHeartbeats 4000000
namespace Go.Proofs.AM
attribute [local irreducible] vwp vstps vstpLs vstp vdo vret kseq kblk kloop kend kcut kloop2 frzV renV shutK pfzV trnV unrV
theorem d_spec_DrawRepoSame {G : Gam} (H_spec_l12Open : Has G c_spec_l12Open) (H_spec_l7Bent : Has G c_spec_l7Bent) (a0 : (List UInt8)) (g0 : Option Addr) (g1 : Nat) (r : (Repo × Repo)) (h : gf_spec_DrawRepoSame a0 = some r) : Does G if_spec_DrawRepoSame ks_spec_DrawRepoSame (c_spec_DrawRepoSame.args (a0, g0, g1)) [] (c_spec_DrawRepoSame.ans (a0, g0, g1) r) := by
  refine does_pn (L := [(0, .raw g0 g1 (List.map eU8 a0))]) (fun bs => pin) fun bs t o => ?_
  show vwp _ ib_spec_DrawRepoSame _ _
  unfold ib_spec_DrawRepoSame
  refine w_ir ?_
  unfold gf_spec_DrawRepoSame at h
  obtain ⟨q3, h47, h⟩ := bnd h
  refine go ?_; intros
  refine w_cut (fun t o => ∃ b14 c15 b16 c17 b18 b19 c20 b21 c22 b23 b25 c26 b28 c29 b30, Pin t (ovr [(0, .raw g0 g1 (List.map eU8 a0)), (2, .ptr 16 b18 210 0 0), (3, .ptr 24 b23 210 0 0), (4, .ptr 32 b30 210 0 0)] t) ∧ PinH o (ovh [(1000256, ent b14 c15 115 (List.map (eCommit true) [])), (1000257, ent b16 c17 130 (List.map eHead [])), (16, ⟨b18, 1, 210, true, [[.al 1000256 b14 c15 0 ([] : List Commit).length 115, .al 1000257 b16 c17 0 ([] : List Head).length 130]]⟩), (1000384, ent b19 c20 115 (List.map (eCommit true) [])), (1000385, ent b21 c22 130 (List.map eHead [])), (24, ⟨b23, 1, 210, true, [[.al 1000384 b19 c20 0 ([] : List Commit).length 115, .al 1000385 b21 c22 0 ([] : List Head).length 130]]⟩), (1000512, ent b25 c26 115 (List.map eCommitX q3.1)), (1000513, ent b28 c29 130 (List.map eHead q3.2)), (32, ⟨b30, 1, 210, true, [[.al 1000512 b25 c26 0 q3.1.length 115, .al 1000513 b28 c29 0 q3.2.length 130]]⟩)] o)) ?_ ?_
  · obtain ⟨x4, h5, h47⟩ := bnd h47
    refine go ?_; intros
    refine c_call (c := c_spec_l12Open) (a0, g0, g1) H_spec_l12Open h5 fun ch => ?_
    obtain ⟨x7, h8, h47⟩ := bnd h47
    refine go ?_; intros
    refine c_callg (c := c_spec_l7Bent) (x4, g0, g1) H_spec_l7Bent h8 fun ch => ?_
    refine go ?_; intros
    cases h47
    exact k_cn ⟨_, _, _, _, _, _, _, _, _, _, _, _, _, _, _, pin, pinh⟩
  rintro t o ⟨b14, c15, b16, c17, b18, b19, c20, b21, c22, b23, b25, c26, b28, c29, b30, pq1, pq2⟩
  refine pinned pq1 pq2 ?_
  obtain ⟨x31, h32, h⟩ := bnd h
  refine go ?_; intros
  refine c_call (c := c_spec_l12Open) (a0, g0, g1) H_spec_l12Open h32 fun ch => ?_
  obtain ⟨x34, h35, h⟩ := bnd h
  refine go ?_; intros
  refine c_callg (c := c_spec_l7Bent) (x31, g0, g1) H_spec_l7Bent h35 fun ch => ?_
  refine go ?_; intros
  refine s_split rfl (fun c => ?_) (fun c => ?_)
  · replace h := itt h (by first | exact c | (have c2 := c; simp only [List.length_map] at c2; exact c2))
    rw [c]
    obtain ⟨x41, h42, h⟩ := bnd h
    refine go ?_; intros
    refine r_iro rfl rfl h42 rfl ?_
    refine go ?_; intros
    refine w_cond rfl (fun c => ?_) (fun c => ?_)
    · replace h := itt h c
      try rw [c]
      obtain ⟨x43, h44, h⟩ := bnd h
      refine go ?_; intros
      refine r_ire (xs := x34.1.commits) rfl rfl h44 rfl ?_
      refine go ?_; intros
      refine r_lde (f := eCommitX) (xs := x34.1.commits) (x := x43) rfl rfl (idx_get h44).2 rfl rfl rfl ?_
      obtain ⟨x45, h46, h⟩ := bnd h
      refine go ?_; intros
      refine r_cat rfl rfl h46 ?_
      refine go ?_; intros
      refine r_ire (xs := x34.1.commits) rfl rfl h44 rfl ?_
      refine go ?_; intros
      refine c_ste (f := eCommitX) x34.1.commits (⟨x43.up, x43.sheet, x45⟩ : Commit) (idx_get h44).2 ?_
      refine go ?_; intros
      cases h
      exact r_end
    replace h := itf h c
    try rw [c]
    refine go ?_; intros
    cases h
    exact r_end
  replace h := itf h (by first | exact c | (have c2 := c; simp only [List.length_map] at c2; exact c2))
  rw [c]
  refine go ?_; intros
  cases h
  exact r_end
theorem d_spec_RepoSame {G : Gam} (H_spec_l7Same : Has G c_spec_l7Same) (a0 : Repo) (a1 : Repo) (r : Bool) (h : gf_spec_RepoSame a0 a1 = some r) : Does G if_spec_RepoSame ks_spec_RepoSame (c_spec_RepoSame.args (a0, a1)) [] (c_spec_RepoSame.ans (a0, a1) r) := by
  refine does_pn (L := [(0, .agg [.ro (List.map (eCommit false) a0.commits), .ro (List.map eHead a0.heads)]), (1, .agg [.ro (List.map (eCommit false) a1.commits), .ro (List.map eHead a1.heads)])]) (fun bs => pin) fun bs t o => ?_
  show vwp _ ib_spec_RepoSame _ _
  unfold ib_spec_RepoSame
  refine w_ir ?_
  unfold gf_spec_RepoSame at h
  refine go ?_; intros
  refine s_split rfl (fun c => ?_) (fun c => ?_)
  · replace h := itt h (by first | exact c | (have c2 := c; simp only [List.length_map] at c2; exact c2))
    rw [c]
    refine go ?_; intros
    cases h
    exact r_end
  replace h := itf h (by first | exact c | (have c2 := c; simp only [List.length_map] at c2; exact c2))
  rw [c]
  refine go ?_; intros
  refine w_cond rfl (fun c => ?_) (fun c => ?_)
  · replace h := itt h (by first | exact c | (have c2 := c; simp only [List.length_map] at c2; exact c2))
    try rw [c]
    refine go ?_; intros
    cases h
    exact r_end
  replace h := itf h (by first | exact c | (have c2 := c; simp only [List.length_map] at c2; exact c2))
  try rw [c]
  obtain ⟨hf38, h⟩ := gd h
  obtain ⟨q26, h77, h⟩ := bnd h
  refine go ?_; intros
  refine w_last (fun t o => ∃ q26_, q26 = .inr q26_ ∧ ∃ b43 b44, Pin t (ovr [(2, .ptr 16 b43 210 0 0), (3, .ptr 24 b44 210 0 0)] t) ∧ PinH o (ovh [(16, ⟨b43, 1, 210, true, [[.sl false 3 (List.map (eCommit false) a0.commits), .sl false 2 (List.map eHead a0.heads)]]⟩), (24, ⟨b44, 1, 210, true, [[.sl false 3 (List.map (eCommit false) a1.commits), .sl false 2 (List.map eHead a1.heads)]]⟩)] o)) ?_ ?_
  · refine w_loop2 (fun n t o => ∃ l32 k30  b28 b29, gl_spec_RepoSame_1 a1 l32 k30  = some q26 ∧ n = l32.length ∧ (a0.commits).drop k30 = l32 ∧ Pin t (ovr [(2, .ptr 16 b28 210 0 0), (3, .ptr 24 b29 210 0 0), (5, .v (.int .i64 (k30 : Int)))] t) ∧ PinH o (ovh [(16, ⟨b28, 1, 210, true, [[.sl false 3 (List.map (eCommit false) a0.commits), .sl false 2 (List.map eHead a0.heads)]]⟩), (24, ⟨b29, 1, 210, true, [[.sl false 3 (List.map (eCommit false) a1.commits), .sl false 2 (List.map eHead a1.heads)]]⟩)] o)) _ ⟨_, _, _, _, h77, rfl, rfl, pin, pinh⟩ ?_
    rintro n t o ⟨l32, k30, b28, b29, h77, rfl, hd33, pq1, pq2⟩
    refine pinned pq1 pq2 ?_
    cases l32 with
    | nil =>
      have hge35 := drop_ge hd33
      rw [gl_spec_RepoSame_1] at h77
      refine go ?_; intros
      rw [hge35]
      refine go ?_; intros
      cases h77
      exact k_cn ⟨_, rfl, _, _, pin, pinh⟩
    | cons x31 l32 =>
      have hlt34 := drop_lt hd33
      have hx36 := drop_ix hd33
      have hw37 := drop_wr hd33 hf38
      rw [gl_spec_RepoSame_1] at h77
      refine go ?_; intros
      rw [hlt34]
      refine go ?_; intros
      refine r_iro rfl rfl hx36 rfl ?_
      obtain ⟨x39, h40, h77⟩ := bnd h77
      refine go ?_; intros
      refine r_iro rfl rfl h40 rfl ?_
      obtain ⟨x41, h42, h77⟩ := bnd h77
      refine go ?_; intros
      refine c_call (c := c_spec_l7Same) (x31, x39) H_spec_l7Same h42 fun ch => ?_
      refine go ?_; intros
      refine w_cond rfl (fun c => ?_) (fun c => ?_)
      · replace h77 := itt h77 c
        try rw [c]
        refine go ?_; intros
        cases h77
        replace h : some _ = some _ := h
        cases h
        exact r_end
      replace h77 := itf h77 c
      try rw [c]
      refine go ?_; intros
      rw [hw37]
      exact k_ln2 _ (Nat.lt_succ_self _) ⟨_, _, _, _, h77, rfl, drop_next hd33, pin, pinh⟩
  rintro t o ⟨q26, rfl, b43, b44, pq1, pq2⟩
  refine pinnedQ pq1 pq2 ?_
  obtain ⟨hf74, h⟩ := gd h
  obtain ⟨q62, h78, h⟩ := bnd h
  refine go ?_; intros
  refine w_last (fun t o => ∃ q62_, q62 = .inr q62_ ∧ Pin t (ovr [] t) ∧ PinH o (ovh [] o)) ?_ ?_
  · refine w_loop2 (fun n t o => ∃ l68 k66  b64 b65, gl_spec_RepoSame_2 a1 l68 k66  = some q62 ∧ n = l68.length ∧ (a0.heads).drop k66 = l68 ∧ Pin t (ovr [(2, .ptr 16 b64 210 0 0), (3, .ptr 24 b65 210 0 0), (6, .v (.int .i64 (k66 : Int)))] t) ∧ PinH o (ovh [(16, ⟨b64, 1, 210, true, [[.sl false 3 (List.map (eCommit false) a0.commits), .sl false 2 (List.map eHead a0.heads)]]⟩), (24, ⟨b65, 1, 210, true, [[.sl false 3 (List.map (eCommit false) a1.commits), .sl false 2 (List.map eHead a1.heads)]]⟩)] o)) _ ⟨_, _, _, _, h78, rfl, rfl, pin, pinh⟩ ?_
    rintro n t o ⟨l68, k66, b64, b65, h78, rfl, hd69, pq1, pq2⟩
    refine pinned pq1 pq2 ?_
    cases l68 with
    | nil =>
      have hge71 := drop_ge hd69
      rw [gl_spec_RepoSame_2] at h78
      refine go ?_; intros
      rw [hge71]
      refine go ?_; intros
      cases h78
      exact k_cn ⟨_, rfl, pin, pinh⟩
    | cons x67 l68 =>
      have hlt70 := drop_lt hd69
      have hx72 := drop_ix hd69
      have hw73 := drop_wr hd69 hf74
      rw [gl_spec_RepoSame_2] at h78
      refine go ?_; intros
      rw [hlt70]
      refine go ?_; intros
      refine r_iro rfl rfl hx72 rfl ?_
      obtain ⟨x75, h76, h78⟩ := bnd h78
      refine go ?_; intros
      refine r_iro rfl rfl h76 rfl ?_
      refine go ?_; intros
      refine w_cond rfl (fun c => ?_) (fun c => ?_)
      · replace h78 := itt h78 c
        try rw [c]
        refine go ?_; intros
        cases h78
        replace h : some _ = some _ := h
        cases h
        exact r_end
      replace h78 := itf h78 c
      try rw [c]
      refine go ?_; intros
      rw [hw73]
      exact k_ln2 _ (Nat.lt_succ_self _) ⟨_, _, _, _, h78, rfl, drop_next hd69, pin, pinh⟩
  rintro t o ⟨q62, rfl, pq1, pq2⟩
  refine pinnedQ pq1 pq2 ?_
  refine go ?_; intros
  cases h
  exact r_end
theorem d_laws_FnRepo {G : Gam} (H_spec_DrawRepoAdd : Has G c_spec_DrawRepoAdd) (H_impl_RepoAdd : Has G c_impl_RepoAdd) (H_spec_RepoAdd : Has G c_spec_RepoAdd) (H_spec_DrawRepoSame : Has G c_spec_DrawRepoSame) (H_impl_RepoSame : Has G c_impl_RepoSame) (H_impl_RepoOk : Has G c_impl_RepoOk) (H_spec_RepoOk : Has G c_spec_RepoOk) (H_spec_RepoSame : Has G c_spec_RepoSame) (H_impl_RepoAt : Has G c_impl_RepoAt) (H_impl_SheetSame : Has G c_impl_SheetSame) (a0 : (List UInt8)) (g0 : Option Addr) (g1 : Nat) (r : Bool) (h : gf_laws_FnRepo a0 = some r) : Does G if_laws_FnRepo ks_laws_FnRepo (c_laws_FnRepo.args (a0, g0, g1)) [] (c_laws_FnRepo.ans (a0, g0, g1) r) := by
  refine does_pn (L := [(0, .raw g0 g1 (List.map eU8 a0))]) (fun bs => pin) fun bs t o => ?_
  show vwp _ ib_laws_FnRepo _ _
  unfold ib_laws_FnRepo
  refine w_ir ?_
  unfold gf_laws_FnRepo at h
  refine go ?_; intros
  refine w_cond rfl (fun c => ?_) (fun c => ?_)
  · replace h := itt h (by first | exact c | (have c2 := c; simp only [List.length_map] at c2; exact c2))
    try rw [c]
    refine go ?_; intros
    cases h
    exact r_end
  replace h := itf h (by first | exact c | (have c2 := c; simp only [List.length_map] at c2; exact c2))
  try rw [c]
  refine go ?_; intros
  refine r_frz ?_
  obtain ⟨x1, h2, h⟩ := bnd h
  refine go ?_; intros
  refine c_call (c := c_spec_DrawRepoAdd) (a0, g0, g1) H_spec_DrawRepoAdd h2 fun ch => ?_
  refine go ?_; intros
  refine c_fz ?_
  obtain ⟨q8, h122, h⟩ := bnd h
  refine go ?_; intros
  refine w_cut (fun t o => ∃ b17 b20, Pin t (ovr [(0, .raw g0 g1 (List.map eU8 a0)), (3, .ptr 24 b17 210 0 0), (4, .v (.string x1.2.1)), (5, .ro (List.map (eFeat false) x1.2.2.1)), (6, .v (.string x1.2.2.2)), (7, .ptr 56 b20 210 0 0), (8, .v (.int .i64 q8.1))] t) ∧ PinH o (ovh [(24, ⟨b17, 1, 210, true, [[.sl false 3 (List.map (eCommit false) x1.1.commits), .sl false 2 (List.map eHead x1.1.heads)]]⟩), (56, ⟨b20, 1, 210, true, [[.sl false 3 (List.map (eCommit false) q8.2.1), .sl false 2 (List.map eHead q8.2.2)]]⟩)] o)) ?_ ?_
  · refine go ?_; intros
    refine r_frz ?_
    obtain ⟨x9, h10, h122⟩ := bnd h122
    refine go ?_; intros
    refine c_call (c := c_impl_RepoAdd) (x1.1, x1.2.1, x1.2.2.1, x1.2.2.2) H_impl_RepoAdd h10 fun ch => ?_
    refine go ?_; intros
    refine c_fz ?_
    refine go ?_; intros
    cases h122
    exact k_cn ⟨_, _, pin, pinh⟩
  rintro t o ⟨b17, b20, pq1, pq2⟩
  refine pinned pq1 pq2 ?_
  obtain ⟨x21, h22, h⟩ := bnd h
  refine go ?_; intros
  refine c_call (c := c_spec_RepoAdd) (x1.1, x1.2.1, x1.2.2.1, x1.2.2.2) H_spec_RepoAdd h22 fun ch => ?_
  obtain ⟨q28, h123, h⟩ := bnd h
  refine go ?_; intros
  refine w_cut (fun t o => ∃ b41 b42 b43 c44 b45 c46 b47 b50 b53, Pin t (ovr [(3, .ptr 24 b41 210 0 0), (4, .v (.string x1.2.1)), (5, .ro (List.map (eFeat false) x1.2.2.1)), (6, .v (.string x1.2.2.2)), (7, .ptr 56 b42 210 0 0), (8, .v (.int .i64 q8.1)), (9, .ptr 72 b47 210 0 0), (10, .v (.int .i64 x21.2)), (11, .ptr 88 b50 210 0 0), (12, .ptr 96 b53 210 0 0)] t) ∧ PinH o (ovh [(24, ⟨b41, 1, 210, true, [[.sl false 3 (List.map (eCommit false) x1.1.commits), .sl false 2 (List.map eHead x1.1.heads)]]⟩), (56, ⟨b42, 1, 210, true, [[.sl false 3 (List.map (eCommit false) q8.2.1), .sl false 2 (List.map eHead q8.2.2)]]⟩), (1001152, ent b43 c44 115 (List.map (eCommit true) x21.1.commits)), (1001153, ent b45 c46 130 (List.map eHead x21.1.heads)), (72, ⟨b47, 1, 210, true, [[.al 1001152 b43 c44 0 x21.1.commits.length 115, .al 1001153 b45 c46 0 x21.1.heads.length 130]]⟩), (88, ⟨b50, 1, 210, true, [[.sl false 3 (List.map (eCommit false) q28.1), .sl false 2 (List.map eHead q28.2.1)]]⟩), (96, ⟨b53, 1, 210, true, [[.sl false 3 (List.map (eCommit false) q28.2.2.1), .sl false 2 (List.map eHead q28.2.2.2)]]⟩)] o)) ?_ ?_
  · refine go ?_; intros
    refine r_frz ?_
    obtain ⟨x29, h30, h123⟩ := bnd h123
    refine go ?_; intros
    refine c_call (c := c_spec_DrawRepoSame) (a0, g0, g1) H_spec_DrawRepoSame h30 fun ch => ?_
    refine go ?_; intros
    refine c_fz ?_
    refine go ?_; intros
    cases h123
    exact k_cn ⟨_, _, _, _, _, _, _, _, _, pin, pinh⟩
  rintro t o ⟨b41, b42, b43, c44, b45, c46, b47, b50, b53, pq1, pq2⟩
  refine pinned pq1 pq2 ?_
  refine go ?_; intros
  refine s_split rfl (fun c => ?_) (fun c => ?_)
  · replace h := itt h c
    rw [c]
    refine go ?_; intros
    cases h
    exact r_end
  replace h := itf h c
  rw [c]
  obtain ⟨x54, h55, h⟩ := bnd h
  refine go ?_; intros
  refine c_call (c := c_impl_RepoSame) ((⟨q8.2.1, q8.2.2⟩ : Repo), x21.1) H_impl_RepoSame h55 fun ch => ?_
  refine go ?_; intros
  refine s_split rfl (fun c => ?_) (fun c => ?_)
  · replace h := itt h c
    rw [c]
    refine go ?_; intros
    cases h
    exact r_end
  replace h := itf h c
  rw [c]
  obtain ⟨x56, h57, h⟩ := bnd h
  refine go ?_; intros
  refine c_call (c := c_impl_RepoOk) (x1.1) H_impl_RepoOk h57 fun ch => ?_
  obtain ⟨x58, h59, h⟩ := bnd h
  refine go ?_; intros
  refine c_call (c := c_spec_RepoOk) (x1.1) H_spec_RepoOk h59 fun ch => ?_
  refine go ?_; intros
  refine s_split rfl (fun c => ?_) (fun c => ?_)
  · replace h := itt h c
    rw [c]
    refine go ?_; intros
    cases h
    exact r_end
  replace h := itf h c
  rw [c]
  obtain ⟨x60, h61, h⟩ := bnd h
  refine go ?_; intros
  refine c_call (c := c_impl_RepoSame) ((⟨q28.1, q28.2.1⟩ : Repo), (⟨q28.2.2.1, q28.2.2.2⟩ : Repo)) H_impl_RepoSame h61 fun ch => ?_
  obtain ⟨x62, h63, h⟩ := bnd h
  refine go ?_; intros
  refine c_call (c := c_spec_RepoSame) ((⟨q28.1, q28.2.1⟩ : Repo), (⟨q28.2.2.1, q28.2.2.2⟩ : Repo)) H_spec_RepoSame h63 fun ch => ?_
  refine go ?_; intros
  refine s_split rfl (fun c => ?_) (fun c => ?_)
  · replace h := itt h c
    rw [c]
    refine go ?_; intros
    cases h
    exact r_end
  replace h := itf h c
  rw [c]
  obtain ⟨x64, h65, h⟩ := bnd h
  refine go ?_; intros
  refine c_call (c := c_impl_RepoSame) ((⟨q28.1, q28.2.1⟩ : Repo), (⟨q28.1, q28.2.1⟩ : Repo)) H_impl_RepoSame h65 fun ch => ?_
  refine go ?_; intros
  refine w_cond rfl (fun c => ?_) (fun c => ?_)
  · replace h := itt h c
    try rw [c]
    refine go ?_; intros
    cases h
    exact r_end
  replace h := itf h c
  try rw [c]
  refine go ?_; intros
  refine w_cond rfl (fun c => ?_) (fun c => ?_)
  · replace h := itt h c
    try rw [c]
    refine go ?_; intros
    cases h
    exact r_end
  replace h := itf h c
  try rw [c]
  refine go ?_; intros
  refine w_cond rfl (fun c => ?_) (fun c => ?_)
  · replace h := itt h c
    try rw [c]
    obtain ⟨x66, h67, h⟩ := bnd h
    refine go ?_; intros
    refine c_call (c := c_impl_RepoSame) ((⟨q8.2.1, q8.2.2⟩ : Repo), x1.1) H_impl_RepoSame h67 fun ch => ?_
    refine go ?_; intros
    cases h
    exact r_end
  replace h := itf h c
  try rw [c]
  obtain ⟨x68, h69, h⟩ := bnd h
  refine go ?_; intros
  refine c_call (c := c_impl_RepoAt) ((⟨q8.2.1, q8.2.2⟩ : Repo), x1.2.1) H_impl_RepoAt h69 fun ch => ?_
  obtain ⟨x70, h71, h⟩ := bnd h
  refine go ?_; intros
  refine c_call (c := c_impl_RepoAt) (x1.1, x1.2.1) H_impl_RepoAt h71 fun ch => ?_
  refine go ?_; intros
  refine s_split rfl (fun c => ?_) (fun c => ?_)
  · replace h := itt h c
    rw [c]
    refine go ?_; intros
    cases h
    exact r_end
  replace h := itf h c
  rw [c]
  obtain ⟨x72, h73, h⟩ := bnd h
  refine go ?_; intros
  refine r_iro rfl rfl h73 rfl ?_
  obtain ⟨x74, h75, h⟩ := bnd h
  refine go ?_; intros
  refine c_call (c := c_impl_SheetSame) (x72.sheet, x1.2.2.1) H_impl_SheetSame h75 fun ch => ?_
  refine go ?_; intros
  refine s_split rfl (fun c => ?_) (fun c => ?_)
  · replace h := itt h c
    rw [c]
    refine go ?_; intros
    cases h
    exact r_end
  replace h := itf h c
  rw [c]
  refine go ?_; intros
  refine r_iro rfl rfl h73 rfl ?_
  refine go ?_; intros
  refine s_split rfl (fun c => ?_) (fun c => ?_)
  · replace h := itt h c
    rw [c]
    refine go ?_; intros
    cases h
    exact r_end
  replace h := itf h c
  rw [c]
  refine go ?_; intros
  refine r_iro rfl rfl h73 rfl ?_
  refine go ?_; intros
  refine s_split rfl (fun c => ?_) (fun c => ?_)
  · replace h := itt h (by first | exact c | (have c2 := c; simp only [List.length_map] at c2; exact c2))
    rw [c]
    refine go ?_; intros
    cases h
    exact r_end
  replace h := itf h (by first | exact c | (have c2 := c; simp only [List.length_map] at c2; exact c2))
  rw [c]
  refine go ?_; intros
  refine r_iro rfl rfl h73 rfl ?_
  obtain ⟨x76, h77, h⟩ := bnd h
  refine go ?_; intros
  refine r_iro rfl rfl h77 rfl ?_
  refine go ?_; intros
  refine s_split rfl (fun c => ?_) (fun c => ?_)
  · replace h := itt h c
    rw [c]
    refine go ?_; intros
    cases h
    exact r_end
  replace h := itf h c
  rw [c]
  obtain ⟨x78, h79, h⟩ := bnd h
  refine go ?_; intros
  refine c_call (c := c_impl_RepoOk) ((⟨q8.2.1, q8.2.2⟩ : Repo)) H_impl_RepoOk h79 fun ch => ?_
  refine go ?_; intros
  refine w_cond rfl (fun c => ?_) (fun c => ?_)
  · replace h := itt h c
    try rw [c]
    refine go ?_; intros
    cases h
    exact r_end
  replace h := itf h c
  try rw [c]
  obtain ⟨q80, h124, h⟩ := bnd h
  refine go ?_; intros
  refine w_cut (fun t o => ∃ q80_, q80 = .inr q80_ ∧ ∃ b81 b82, Pin t (ovr [(3, .ptr 24 b81 210 0 0), (4, .v (.string x1.2.1)), (7, .ptr 56 b82 210 0 0), (13, .v (.int .i64 (x1.1.commits.length : Int)))] t) ∧ PinH o (ovh [(24, ⟨b81, 1, 210, true, [[.sl false 3 (List.map (eCommit false) x1.1.commits), .sl false 2 (List.map eHead x1.1.heads)]]⟩), (56, ⟨b82, 1, 210, true, [[.sl false 3 (List.map (eCommit false) q8.2.1), .sl false 2 (List.map eHead q8.2.2)]]⟩)] o)) ?_ ?_
  · refine go ?_; intros
    refine s_split rfl (fun c => ?_) (fun c => ?_)
    · replace h124 := itt h124 (by first | exact c | (have c2 := c; simp only [List.length_map] at c2; exact c2))
      rw [c]
      refine go ?_; intros
      refine s_split rfl (fun c => ?_) (fun c => ?_)
      · replace h124 := itt h124 (by first | exact c | (have c2 := c; simp only [List.length_map] at c2; exact c2))
        rw [c]
        refine go ?_; intros
        cases h124
        replace h : some _ = some _ := h
        cases h
        exact r_end
      replace h124 := itf h124 (by first | exact c | (have c2 := c; simp only [List.length_map] at c2; exact c2))
      rw [c]
      refine go ?_; intros
      refine s_split rfl (fun c => ?_) (fun c => ?_)
      · replace h124 := itt h124 (by first | exact c | (have c2 := c; simp only [List.length_map] at c2; exact c2))
        rw [c]
        refine go ?_; intros
        refine s_split rfl (fun c => ?_) (fun c => ?_)
        · replace h124 := itt h124 (by first | exact c | (have c2 := c; simp only [List.length_map] at c2; exact c2))
          rw [c]
          refine go ?_; intros
          cases h124
          replace h : some _ = some _ := h
          cases h
          exact r_end
        replace h124 := itf h124 (by first | exact c | (have c2 := c; simp only [List.length_map] at c2; exact c2))
        rw [c]
        refine go ?_; intros
        refine w_cond rfl (fun c => ?_) (fun c => ?_)
        · replace h124 := itt h124 (by first | exact c | (have c2 := c; simp only [List.length_map] at c2; exact c2))
          try rw [c]
          refine go ?_; intros
          cases h124
          replace h : some _ = some _ := h
          cases h
          exact r_end
        replace h124 := itf h124 (by first | exact c | (have c2 := c; simp only [List.length_map] at c2; exact c2))
        try rw [c]
        refine go ?_; intros
        cases h124
        exact k_cn ⟨_, rfl, _, _, pin, pinh⟩
      replace h124 := itf h124 (by first | exact c | (have c2 := c; simp only [List.length_map] at c2; exact c2))
      rw [c]
      refine go ?_; intros
      cases h124
      exact k_cn ⟨_, rfl, _, _, pin, pinh⟩
    replace h124 := itf h124 (by first | exact c | (have c2 := c; simp only [List.length_map] at c2; exact c2))
    rw [c]
    refine go ?_; intros
    refine s_split rfl (fun c => ?_) (fun c => ?_)
    · replace h124 := itt h124 (by first | exact c | (have c2 := c; simp only [List.length_map] at c2; exact c2))
      rw [c]
      refine go ?_; intros
      refine s_split rfl (fun c => ?_) (fun c => ?_)
      · replace h124 := itt h124 (by first | exact c | (have c2 := c; simp only [List.length_map] at c2; exact c2))
        rw [c]
        refine go ?_; intros
        cases h124
        replace h : some _ = some _ := h
        cases h
        exact r_end
      replace h124 := itf h124 (by first | exact c | (have c2 := c; simp only [List.length_map] at c2; exact c2))
      rw [c]
      refine go ?_; intros
      refine w_cond rfl (fun c => ?_) (fun c => ?_)
      · replace h124 := itt h124 (by first | exact c | (have c2 := c; simp only [List.length_map] at c2; exact c2))
        try rw [c]
        refine go ?_; intros
        cases h124
        replace h : some _ = some _ := h
        cases h
        exact r_end
      replace h124 := itf h124 (by first | exact c | (have c2 := c; simp only [List.length_map] at c2; exact c2))
      try rw [c]
      refine go ?_; intros
      cases h124
      exact k_cn ⟨_, rfl, _, _, pin, pinh⟩
    replace h124 := itf h124 (by first | exact c | (have c2 := c; simp only [List.length_map] at c2; exact c2))
    rw [c]
    refine go ?_; intros
    cases h124
    exact k_cn ⟨_, rfl, _, _, pin, pinh⟩
  rintro t o ⟨q80, rfl, b81, b82, pq1, pq2⟩
  refine pinned pq1 pq2 ?_
  obtain ⟨hf112, h⟩ := gd h
  obtain ⟨q100, h125, h⟩ := bnd h
  refine go ?_; intros
  refine w_last (fun t o => ∃ q100_, q100 = .inr q100_ ∧ ∃ b115 b116, Pin t (ovr [(3, .ptr 24 b115 210 0 0), (7, .ptr 56 b116 210 0 0), (13, .v (.int .i64 (x1.1.commits.length : Int)))] t) ∧ PinH o (ovh [(24, ⟨b115, 1, 210, true, [[.sl false 3 (List.map (eCommit false) x1.1.commits), .sl false 2 (List.map eHead x1.1.heads)]]⟩), (56, ⟨b116, 1, 210, true, [[.sl false 3 (List.map (eCommit false) q8.2.1), .sl false 2 (List.map eHead q8.2.2)]]⟩)] o)) ?_ ?_
  · refine w_loop2 (fun n t o => ∃ l106 k104  b102 b103, gl_laws_FnRepo_1 x1 q8 l106 k104  = some q100 ∧ n = l106.length ∧ (x1.1.heads).drop k104 = l106 ∧ Pin t (ovr [(3, .ptr 24 b102 210 0 0), (4, .v (.string x1.2.1)), (7, .ptr 56 b103 210 0 0), (13, .v (.int .i64 (x1.1.commits.length : Int))), (16, .v (.int .i64 (k104 : Int)))] t) ∧ PinH o (ovh [(24, ⟨b102, 1, 210, true, [[.sl false 3 (List.map (eCommit false) x1.1.commits), .sl false 2 (List.map eHead x1.1.heads)]]⟩), (56, ⟨b103, 1, 210, true, [[.sl false 3 (List.map (eCommit false) q8.2.1), .sl false 2 (List.map eHead q8.2.2)]]⟩)] o)) _ ⟨_, _, _, _, h125, rfl, rfl, pin, pinh⟩ ?_
    rintro n t o ⟨l106, k104, b102, b103, h125, rfl, hd107, pq1, pq2⟩
    refine pinned pq1 pq2 ?_
    cases l106 with
    | nil =>
      have hge109 := drop_ge hd107
      rw [gl_laws_FnRepo_1] at h125
      refine go ?_; intros
      rw [hge109]
      refine go ?_; intros
      cases h125
      exact k_cn ⟨_, rfl, _, _, pin, pinh⟩
    | cons x105 l106 =>
      have hlt108 := drop_lt hd107
      have hx110 := drop_ix hd107
      have hw111 := drop_wr hd107 hf112
      rw [gl_laws_FnRepo_1] at h125
      refine go ?_; intros
      rw [hlt108]
      refine go ?_; intros
      refine r_iro rfl rfl hx110 rfl ?_
      refine go ?_; intros
      refine s_split rfl (fun c => ?_) (fun c => ?_)
      · replace h125 := itt h125 c
        rw [c]
        obtain ⟨x113, h114, h125⟩ := bnd h125
        refine go ?_; intros
        refine r_iro rfl rfl h114 rfl ?_
        refine go ?_; intros
        refine r_iro rfl rfl hx110 rfl ?_
        refine go ?_; intros
        refine w_cond rfl (fun c => ?_) (fun c => ?_)
        · replace h125 := itt h125 c
          try rw [c]
          refine go ?_; intros
          cases h125
          replace h : some _ = some _ := h
          cases h
          exact r_end
        replace h125 := itf h125 c
        try rw [c]
        refine go ?_; intros
        rw [hw111]
        exact k_ln2 _ (Nat.lt_succ_self _) ⟨_, _, _, _, h125, rfl, drop_next hd107, pin, pinh⟩
      replace h125 := itf h125 c
      rw [c]
      refine go ?_; intros
      rw [hw111]
      exact k_ln2 _ (Nat.lt_succ_self _) ⟨_, _, _, _, h125, rfl, drop_next hd107, pin, pinh⟩
  rintro t o ⟨q100, rfl, b115, b116, pq1, pq2⟩
  refine pinnedQ pq1 pq2 ?_
  obtain ⟨x118, h119, h⟩ := bnd h
  refine go ?_; intros
  refine r_sls (f := (eCommit false)) rfl rfl rfl h119 (fun _ => rfl) ?_
  obtain ⟨x120, h121, h⟩ := bnd h
  refine go ?_; intros
  refine c_call (c := c_impl_RepoSame) ((⟨x118, x1.1.heads⟩ : Repo), x1.1) H_impl_RepoSame h121 fun ch => ?_
  refine go ?_; intros
  cases h
  exact r_end
end Go.Proofs.AM
