/- A part of the proofs of this seat's statements (YF17): lemmas on an abstract machine for the program's functions. Conditions: none. -/
import Derived.Test.YthfgbbcoadcigaaGreatYD
set_option linter.unusedVariables false
set_option maxRecDepth 100000
set_option maxHeartbeats 4000000
namespace Go.Proofs.AM
attribute [local irreducible] vwp vstps vstpLs vstp vdo vret kseq kblk kloop kend kcut kloop2 frzV renV shutK
theorem d_laws_FnExactRepoBranch {G : Gam} (H_laws_szRepo : Has G c_laws_szRepo) (H_laws_toRepo : Has G c_laws_toRepo) (H_spec_RepoBranch : Has G c_spec_RepoBranch) (H_impl_RepoBranch : Has G c_impl_RepoBranch) (H_laws_eqRepo : Has G c_laws_eqRepo) (H_laws_markRepo : Has G c_laws_markRepo) (H_laws_heldRepo : Has G c_laws_heldRepo) (a0 : Repo) (a1 : Str) (a2 : Str) (r : Bool) (h : gf_laws_FnExactRepoBranch a0 a1 a2 = some r) : Does G if_laws_FnExactRepoBranch ks_laws_FnExactRepoBranch (c_laws_FnExactRepoBranch.args (a0, a1, a2)) [] (c_laws_FnExactRepoBranch.ans (a0, a1, a2) r) := by
  refine does_pn (L := [(0, .agg [.ro (List.map (eCommit false) a0.commits), .ro (List.map eHead a0.heads)]), (1, .v (.string a1)), (2, .v (.string a2))]) (fun bs => pin) fun bs t o => ?_
  show vwp _ ib_laws_FnExactRepoBranch _ _
  unfold ib_laws_FnExactRepoBranch
  unfold gf_laws_FnExactRepoBranch at h
  refine go ?_; intros
  refine w_cond rfl (fun c => ?_) (fun c => ?_)
  · replace h := itt h c
    try rw [c]
    refine go ?_; intros
    cases h
    exact r_end
  replace h := itf h c
  try rw [c]
  refine go ?_; intros
  refine w_cond rfl (fun c => ?_) (fun c => ?_)
  · replace h := itt h c
    try rw [c]
    refine go ?_; intros
    cases h
    exact r_end
  replace h := itf h c
  try rw [c]
  obtain ⟨x2, h3, h⟩ := bnd h
  refine go ?_; intros
  refine c_call (c := c_laws_szRepo) (a0, 1048576) H_laws_szRepo h3 fun ch => ?_
  refine go ?_; intros
  refine w_cond rfl (fun c => ?_) (fun c => ?_)
  · replace h := itt h c
    try rw [c]
    refine go ?_; intros
    cases h
    exact r_end
  replace h := itf h c
  try rw [c]
  obtain ⟨q4, h96, h⟩ := bnd h
  refine go ?_; intros
  refine w_cut (fun t o => ∃ b19 b21 c22 b24 c25 b26, Pin t (ovr [(1, .v (.string a1)), (2, .v (.string a2)), (3, .ptr 24 b19 466 0 0), (8, .ptr 64 b26 210 0 0), (9, .v (.int .i64 q4.1))] t) ∧ PinH o (ovh [(24, ⟨b19, 1, 466, true, [[.sl false 3 (List.map (eCommit false) a0.commits), .sl false 2 (List.map eHead a0.heads)]]⟩), (1001024, ent b21 c22 115 (List.map (eCommit true) q4.2.1)), (1001025, ent b24 c25 130 (List.map eHead q4.2.2)), (64, ⟨b26, 1, 210, true, [[.al 1001024 b21 c22 0 q4.2.1.length 115, .al 1001025 b24 c25 0 q4.2.2.length 130]]⟩)] o)) ?_ ?_
  · obtain ⟨x5, h6, h96⟩ := bnd h96
    refine go ?_; intros
    refine c_call (c := c_laws_toRepo) (a0) H_laws_toRepo h6 fun ch => ?_
    obtain ⟨x11, h12, h96⟩ := bnd h96
    refine go ?_; intros
    refine c_call (c := c_spec_RepoBranch) (x5, a1, a2) H_spec_RepoBranch h12 fun ch => ?_
    refine go ?_; intros
    cases h96
    exact k_cn ⟨_, _, _, _, _, _, pin, pinh⟩
  rintro t o ⟨b19, b21, c22, b24, c25, b26, q1, q2⟩
  refine pinned q1 q2 ?_
  obtain ⟨x27, h28, h⟩ := bnd h
  refine go ?_; intros
  refine c_call (c := c_laws_toRepo) (a0) H_laws_toRepo h28 fun ch => ?_
  obtain ⟨q34, h97, h⟩ := bnd h
  refine go ?_; intros
  refine w_cut (fun t o => ∃ b43 b44 c45 b46 c47 b48 b49 c50 b51 c52 b53 b55 c56 b58 c59 b60, Pin t (ovr [(1, .v (.string a1)), (2, .v (.string a2)), (3, .ptr 24 b43 466 0 0), (8, .ptr 64 b48 210 0 0), (9, .v (.int .i64 q4.1)), (10, .ptr 80 b53 210 0 0), (11, .ptr 88 b60 210 0 0), (12, .v (.int .i64 q34.1))] t) ∧ PinH o (ovh [(24, ⟨b43, 1, 466, true, [[.sl false 3 (List.map (eCommit false) a0.commits), .sl false 2 (List.map eHead a0.heads)]]⟩), (1001024, ent b44 c45 115 (List.map (eCommit true) q4.2.1)), (1001025, ent b46 c47 130 (List.map eHead q4.2.2)), (64, ⟨b48, 1, 210, true, [[.al 1001024 b44 c45 0 q4.2.1.length 115, .al 1001025 b46 c47 0 q4.2.2.length 130]]⟩), (1001280, ent b49 c50 115 (List.map (eCommit true) x27.commits)), (1001281, ent b51 c52 130 (List.map eHead x27.heads)), (80, ⟨b53, 1, 210, true, [[.al 1001280 b49 c50 0 x27.commits.length 115, .al 1001281 b51 c52 0 x27.heads.length 130]]⟩), (1001408, ent b55 c56 115 (List.map (eCommit true) q34.2.1)), (1001409, ent b58 c59 130 (List.map eHead q34.2.2)), (88, ⟨b60, 1, 210, true, [[.al 1001408 b55 c56 0 q34.2.1.length 115, .al 1001409 b58 c59 0 q34.2.2.length 130]]⟩)] o)) ?_ ?_
  · obtain ⟨x35, h36, h97⟩ := bnd h97
    refine go ?_; intros
    refine c_call (c := c_impl_RepoBranch) (x27, a1, a2) H_impl_RepoBranch h36 fun ch => ?_
    refine go ?_; intros
    cases h97
    exact k_cn ⟨_, _, _, _, _, _, _, _, _, _, _, _, _, _, _, _, pin, pinh⟩
  rintro t o ⟨b43, b44, c45, b46, c47, b48, b49, c50, b51, c52, b53, b55, c56, b58, c59, b60, q1, q2⟩
  refine pinned q1 q2 ?_
  obtain ⟨x61, h62, h⟩ := bnd h
  refine go ?_; intros
  refine c_call (c := c_laws_eqRepo) ((⟨q34.2.1, q34.2.2⟩ : Repo), (⟨q4.2.1, q4.2.2⟩ : Repo)) H_laws_eqRepo h62 fun ch => ?_
  refine go ?_; intros
  refine s_split rfl (fun c => ?_) (fun c => ?_)
  · replace h := itt h c
    rw [c]
    refine go ?_; intros
    cases h
    exact r_end
  replace h := itf h c
  rw [c]
  refine go ?_; intros
  refine w_cond rfl (fun c => ?_) (fun c => ?_)
  · replace h := itt h c
    try rw [c]
    refine go ?_; intros
    cases h
    exact r_end
  replace h := itf h c
  try rw [c]
  obtain ⟨x63, h64, h⟩ := bnd h
  refine go ?_; intros
  refine c_call (c := c_laws_toRepo) (a0) H_laws_toRepo h64 fun ch => ?_
  obtain ⟨x69, h70, h⟩ := bnd h
  refine go ?_; intros
  refine c_call (c := c_laws_eqRepo) (x27, x63) H_laws_eqRepo h70 fun ch => ?_
  refine go ?_; intros
  refine w_cond rfl (fun c => ?_) (fun c => ?_)
  · replace h := itt h c
    try rw [c]
    refine go ?_; intros
    cases h
    exact r_end
  replace h := itf h c
  try rw [c]
  obtain ⟨x71, h72, h⟩ := bnd h
  refine go ?_; intros
  have L72 := l_laws_markRepo h72; (try dsimp only at L72); refine c_callg (c := c_laws_markRepo) (x27, 1) H_laws_markRepo h72 fun ch => ?_
  refine go ?_; intros
  refine s_split rfl (fun c => ?_) (fun c => ?_)
  · replace h := itt h c
    rw [c]
    refine go ?_; intros
    cases h
    exact r_end
  replace h := itf h c
  rw [c]
  obtain ⟨x73, h74, h⟩ := bnd h
  refine go ?_; intros
  refine c_call (c := c_laws_eqRepo) ((⟨q34.2.1, q34.2.2⟩ : Repo), (⟨q4.2.1, q4.2.2⟩ : Repo)) H_laws_eqRepo h74 fun ch => ?_
  refine go ?_; intros
  refine s_split rfl (fun c => ?_) (fun c => ?_)
  · replace h := itt h c
    rw [c]
    refine go ?_; intros
    cases h
    exact r_end
  replace h := itf h c
  rw [c]
  refine go ?_; intros
  refine w_cond rfl (fun c => ?_) (fun c => ?_)
  · replace h := itt h c
    try rw [c]
    refine go ?_; intros
    cases h
    exact r_end
  replace h := itf h c
  try rw [c]
  obtain ⟨x75, h76, h⟩ := bnd h
  refine go ?_; intros
  have L76 := l_laws_markRepo h76; (try dsimp only at L76); refine c_callg (c := c_laws_markRepo) ((⟨q34.2.1, q34.2.2⟩ : Repo), 1) H_laws_markRepo h76 fun ch => ?_
  obtain ⟨x77, h78, h⟩ := bnd h
  refine go ?_; intros
  refine c_call (c := c_laws_heldRepo) (x75.2, 1) H_laws_heldRepo h78 fun ch => ?_
  refine go ?_; intros
  refine w_cond rfl (fun c => ?_) (fun c => ?_)
  · replace h := itt h c
    try rw [c]
    refine go ?_; intros
    cases h
    exact r_end
  replace h := itf h c
  try rw [c]
  refine go ?_; intros
  refine w_cond rfl (fun c => ?_) (fun c => ?_)
  · replace h := itt h c
    try rw [c]
    refine go ?_; intros
    cases h
    exact r_end
  replace h := itf h c
  try rw [c]
  obtain ⟨x79, h80, h⟩ := bnd h
  refine go ?_; intros
  refine c_call (c := c_laws_toRepo) (a0) H_laws_toRepo h80 fun ch => ?_
  obtain ⟨x85, h86, h⟩ := bnd h
  refine go ?_; intros
  refine c_call (c := c_impl_RepoBranch) (x79, a1, a2) H_impl_RepoBranch h86 fun ch => ?_
  obtain ⟨x92, h93, h⟩ := bnd h
  refine go ?_; intros
  refine c_call (c := c_laws_eqRepo) (x85.1, (⟨q4.2.1, q4.2.2⟩ : Repo)) H_laws_eqRepo h93 fun ch => ?_
  refine go ?_; intros
  refine s_split rfl (fun c => ?_) (fun c => ?_)
  · replace h := itt h c
    rw [c]
    refine go ?_; intros
    cases h
    exact r_end
  replace h := itf h c
  rw [c]
  refine go ?_; intros
  refine w_cond rfl (fun c => ?_) (fun c => ?_)
  · replace h := itt h c
    try rw [c]
    refine go ?_; intros
    cases h
    exact r_end
  replace h := itf h c
  try rw [c]
  obtain ⟨x94, h95, h⟩ := bnd h
  refine go ?_; intros
  refine c_call (c := c_laws_heldRepo) (x75.2, 1) H_laws_heldRepo h95 fun ch => ?_
  refine go ?_; intros
  refine w_cond rfl (fun c => ?_) (fun c => ?_)
  · replace h := itt h c
    try rw [c]
    refine go ?_; intros
    cases h
    exact r_end
  replace h := itf h c
  try rw [c]
  refine go ?_; intros
  refine w_cond rfl (fun c => ?_) (fun c => ?_)
  · replace h := itt h c
    try rw [c]
    refine go ?_; intros
    cases h
    exact r_end
  replace h := itf h c
  try rw [c]
  refine go ?_; intros
  cases h
  exact r_end
theorem d_laws_FnExactRepoSweep {G : Gam} (H_laws_szRepo : Has G c_laws_szRepo) (H_laws_toRepo : Has G c_laws_toRepo) (H_spec_RepoSweep : Has G c_spec_RepoSweep) (H_impl_RepoSweep : Has G c_impl_RepoSweep) (H_laws_eqRepo : Has G c_laws_eqRepo) (H_laws_markRepo : Has G c_laws_markRepo) (H_laws_heldRepo : Has G c_laws_heldRepo) (a0 : Repo) (r : Bool) (h : gf_laws_FnExactRepoSweep a0 = some r) : Does G if_laws_FnExactRepoSweep ks_laws_FnExactRepoSweep (c_laws_FnExactRepoSweep.args (a0)) [] (c_laws_FnExactRepoSweep.ans (a0) r) := by
  refine does_pn (L := [(0, .agg [.ro (List.map (eCommit false) a0.commits), .ro (List.map eHead a0.heads)])]) (fun bs => pin) fun bs t o => ?_
  show vwp _ ib_laws_FnExactRepoSweep _ _
  unfold ib_laws_FnExactRepoSweep
  unfold gf_laws_FnExactRepoSweep at h
  obtain ⟨x2, h3, h⟩ := bnd h
  refine go ?_; intros
  refine c_call (c := c_laws_szRepo) (a0, 1048576) H_laws_szRepo h3 fun ch => ?_
  refine go ?_; intros
  refine w_cond rfl (fun c => ?_) (fun c => ?_)
  · replace h := itt h c
    try rw [c]
    refine go ?_; intros
    cases h
    exact r_end
  replace h := itf h c
  try rw [c]
  obtain ⟨q4, h94, h⟩ := bnd h
  refine go ?_; intros
  refine w_cut (fun t o => ∃ b18 b20 c21 b23 c24 b25, Pin t (ovr [(1, .ptr 8 b18 466 0 0), (4, .ptr 32 b25 210 0 0)] t) ∧ PinH o (ovh [(8, ⟨b18, 1, 466, true, [[.sl false 3 (List.map (eCommit false) a0.commits), .sl false 2 (List.map eHead a0.heads)]]⟩), (1000512, ent b20 c21 115 (List.map (eCommit true) q4.1)), (1000513, ent b23 c24 130 (List.map eHead q4.2)), (32, ⟨b25, 1, 210, true, [[.al 1000512 b20 c21 0 q4.1.length 115, .al 1000513 b23 c24 0 q4.2.length 130]]⟩)] o)) ?_ ?_
  · obtain ⟨x5, h6, h94⟩ := bnd h94
    refine go ?_; intros
    refine c_call (c := c_laws_toRepo) (a0) H_laws_toRepo h6 fun ch => ?_
    obtain ⟨x11, h12, h94⟩ := bnd h94
    refine go ?_; intros
    refine c_call (c := c_spec_RepoSweep) (x5) H_spec_RepoSweep h12 fun ch => ?_
    refine go ?_; intros
    cases h94
    exact k_cn ⟨_, _, _, _, _, _, pin, pinh⟩
  rintro t o ⟨b18, b20, c21, b23, c24, b25, q1, q2⟩
  refine pinned q1 q2 ?_
  obtain ⟨x26, h27, h⟩ := bnd h
  refine go ?_; intros
  refine c_call (c := c_laws_toRepo) (a0) H_laws_toRepo h27 fun ch => ?_
  obtain ⟨q33, h95, h⟩ := bnd h
  refine go ?_; intros
  refine w_cut (fun t o => ∃ b41 b42 c43 b44 c45 b46 b47 c48 b49 c50 b51 b53 c54 b56 c57 b58, Pin t (ovr [(1, .ptr 8 b41 466 0 0), (4, .ptr 32 b46 210 0 0), (5, .ptr 40 b51 210 0 0), (6, .ptr 48 b58 210 0 0)] t) ∧ PinH o (ovh [(8, ⟨b41, 1, 466, true, [[.sl false 3 (List.map (eCommit false) a0.commits), .sl false 2 (List.map eHead a0.heads)]]⟩), (1000512, ent b42 c43 115 (List.map (eCommit true) q4.1)), (1000513, ent b44 c45 130 (List.map eHead q4.2)), (32, ⟨b46, 1, 210, true, [[.al 1000512 b42 c43 0 q4.1.length 115, .al 1000513 b44 c45 0 q4.2.length 130]]⟩), (1000640, ent b47 c48 115 (List.map (eCommit true) x26.commits)), (1000641, ent b49 c50 130 (List.map eHead x26.heads)), (40, ⟨b51, 1, 210, true, [[.al 1000640 b47 c48 0 x26.commits.length 115, .al 1000641 b49 c50 0 x26.heads.length 130]]⟩), (1000768, ent b53 c54 115 (List.map (eCommit true) q33.1)), (1000769, ent b56 c57 130 (List.map eHead q33.2)), (48, ⟨b58, 1, 210, true, [[.al 1000768 b53 c54 0 q33.1.length 115, .al 1000769 b56 c57 0 q33.2.length 130]]⟩)] o)) ?_ ?_
  · obtain ⟨x34, h35, h95⟩ := bnd h95
    refine go ?_; intros
    refine c_call (c := c_impl_RepoSweep) (x26) H_impl_RepoSweep h35 fun ch => ?_
    refine go ?_; intros
    cases h95
    exact k_cn ⟨_, _, _, _, _, _, _, _, _, _, _, _, _, _, _, _, pin, pinh⟩
  rintro t o ⟨b41, b42, c43, b44, c45, b46, b47, c48, b49, c50, b51, b53, c54, b56, c57, b58, q1, q2⟩
  refine pinned q1 q2 ?_
  obtain ⟨x59, h60, h⟩ := bnd h
  refine go ?_; intros
  refine c_call (c := c_laws_eqRepo) ((⟨q33.1, q33.2⟩ : Repo), (⟨q4.1, q4.2⟩ : Repo)) H_laws_eqRepo h60 fun ch => ?_
  refine go ?_; intros
  refine w_cond rfl (fun c => ?_) (fun c => ?_)
  · replace h := itt h c
    try rw [c]
    refine go ?_; intros
    cases h
    exact r_end
  replace h := itf h c
  try rw [c]
  obtain ⟨x61, h62, h⟩ := bnd h
  refine go ?_; intros
  refine c_call (c := c_laws_toRepo) (a0) H_laws_toRepo h62 fun ch => ?_
  obtain ⟨x67, h68, h⟩ := bnd h
  refine go ?_; intros
  refine c_call (c := c_laws_eqRepo) (x26, x61) H_laws_eqRepo h68 fun ch => ?_
  refine go ?_; intros
  refine w_cond rfl (fun c => ?_) (fun c => ?_)
  · replace h := itt h c
    try rw [c]
    refine go ?_; intros
    cases h
    exact r_end
  replace h := itf h c
  try rw [c]
  obtain ⟨x69, h70, h⟩ := bnd h
  refine go ?_; intros
  have L70 := l_laws_markRepo h70; (try dsimp only at L70); refine c_callg (c := c_laws_markRepo) (x26, 1) H_laws_markRepo h70 fun ch => ?_
  refine go ?_; intros
  refine s_split rfl (fun c => ?_) (fun c => ?_)
  · replace h := itt h c
    rw [c]
    refine go ?_; intros
    cases h
    exact r_end
  replace h := itf h c
  rw [c]
  obtain ⟨x71, h72, h⟩ := bnd h
  refine go ?_; intros
  refine c_call (c := c_laws_eqRepo) ((⟨q33.1, q33.2⟩ : Repo), (⟨q4.1, q4.2⟩ : Repo)) H_laws_eqRepo h72 fun ch => ?_
  refine go ?_; intros
  refine w_cond rfl (fun c => ?_) (fun c => ?_)
  · replace h := itt h c
    try rw [c]
    refine go ?_; intros
    cases h
    exact r_end
  replace h := itf h c
  try rw [c]
  obtain ⟨x73, h74, h⟩ := bnd h
  refine go ?_; intros
  have L74 := l_laws_markRepo h74; (try dsimp only at L74); refine c_callg (c := c_laws_markRepo) ((⟨q33.1, q33.2⟩ : Repo), 1) H_laws_markRepo h74 fun ch => ?_
  obtain ⟨x75, h76, h⟩ := bnd h
  refine go ?_; intros
  refine c_call (c := c_laws_heldRepo) (x73.2, 1) H_laws_heldRepo h76 fun ch => ?_
  refine go ?_; intros
  refine w_cond rfl (fun c => ?_) (fun c => ?_)
  · replace h := itt h c
    try rw [c]
    refine go ?_; intros
    cases h
    exact r_end
  replace h := itf h c
  try rw [c]
  refine go ?_; intros
  refine w_cond rfl (fun c => ?_) (fun c => ?_)
  · replace h := itt h c
    try rw [c]
    refine go ?_; intros
    cases h
    exact r_end
  replace h := itf h c
  try rw [c]
  obtain ⟨x77, h78, h⟩ := bnd h
  refine go ?_; intros
  refine c_call (c := c_laws_toRepo) (a0) H_laws_toRepo h78 fun ch => ?_
  obtain ⟨x83, h84, h⟩ := bnd h
  refine go ?_; intros
  refine c_call (c := c_impl_RepoSweep) (x77) H_impl_RepoSweep h84 fun ch => ?_
  obtain ⟨x90, h91, h⟩ := bnd h
  refine go ?_; intros
  refine c_call (c := c_laws_eqRepo) (x83, (⟨q4.1, q4.2⟩ : Repo)) H_laws_eqRepo h91 fun ch => ?_
  refine go ?_; intros
  refine w_cond rfl (fun c => ?_) (fun c => ?_)
  · replace h := itt h c
    try rw [c]
    refine go ?_; intros
    cases h
    exact r_end
  replace h := itf h c
  try rw [c]
  obtain ⟨x92, h93, h⟩ := bnd h
  refine go ?_; intros
  refine c_call (c := c_laws_heldRepo) (x73.2, 1) H_laws_heldRepo h93 fun ch => ?_
  refine go ?_; intros
  refine w_cond rfl (fun c => ?_) (fun c => ?_)
  · replace h := itt h c
    try rw [c]
    refine go ?_; intros
    cases h
    exact r_end
  replace h := itf h c
  try rw [c]
  refine go ?_; intros
  refine w_cond rfl (fun c => ?_) (fun c => ?_)
  · replace h := itt h c
    try rw [c]
    refine go ?_; intros
    cases h
    exact r_end
  replace h := itf h c
  try rw [c]
  refine go ?_; intros
  cases h
  exact r_end
end Go.Proofs.AM
