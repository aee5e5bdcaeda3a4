/- A part of the proofs of this seat's statements (KBF14): lemmas on an abstract machine for the program's functions. Conditions: none. -/
import Derived.Test.YtbildbphkmdemaaKBD
set_option linter.unusedVariables false
set_option linter.unusedSimpArgs false
set_option maxRecDepth 100000
set_option maxHeartbeats 4000000
namespace Go.Proofs.AM
attribute [local irreducible] vwp vstps vstpLs vstp vdo vret kseq kblk kloop kend kcut kloop2 frzV renV shutK pfzV trnV unrV
theorem d_impl_RepoBranch {G : Gam} (H_impl_RepoOk : Has G c_impl_RepoOk) (H_impl_WordOk : Has G c_impl_WordOk) (H_impl_cloneRepo : Has G c_impl_cloneRepo) (H_impl_Repo_head : Has G c_impl_Repo_head) (a0 : Repo) (a1 : Str) (a2 : Str) (r : (Repo × Int)) (h : gf_impl_RepoBranch a0 a1 a2 = some r) : Does G if_impl_RepoBranch ks_impl_RepoBranch (c_impl_RepoBranch.args (a0, a1, a2)) [] (c_impl_RepoBranch.ans (a0, a1, a2) r) := by
  refine does_pn (L := [(0, .agg [.ro (List.map (eCommit false) a0.commits), .ro (List.map eHead a0.heads)]), (1, .v (.string a1)), (2, .v (.string a2))]) (fun bs => pin) fun bs t o => ?_
  show vwp _ ib_impl_RepoBranch _ _
  unfold ib_impl_RepoBranch
  refine w_ir ?_
  unfold gf_impl_RepoBranch at h
  obtain ⟨x3, h4, h⟩ := bnd h
  refine go ?_; intros
  refine c_call (c := c_impl_RepoOk) (a0) H_impl_RepoOk h4 fun ch => ?_
  refine go ?_; intros
  refine s_split rfl (fun c => ?_) (fun c => ?_)
  · replace h := itt h c
    rw [c]
    refine go ?_; intros
    cases h
    exact r_end
  replace h := itf h c
  rw [c]
  obtain ⟨x5, h6, h⟩ := bnd h
  refine go ?_; intros
  refine c_call (c := c_impl_WordOk) (a1) H_impl_WordOk h6 fun ch => ?_
  refine go ?_; intros
  refine w_cond rfl (fun c => ?_) (fun c => ?_)
  · replace h := itt h c
    try rw [c]
    refine go ?_; intros
    cases h
    exact r_end
  replace h := itf h c
  try rw [c]
  obtain ⟨q7, h38, h⟩ := bnd h
  refine go ?_; intros
  refine w_cut (fun t o => ∃ b15 b16 c17 b18 c19 b20 b22 c23 b25 c26 b27, Pin t (ovr [(1, .v (.string a1)), (2, .v (.string a2)), (3, .ptr 24 b15 210 0 0), (6, .ptr 48 b20 210 0 0), (8, .ptr 64 b27 210 0 0)] t) ∧ PinH o (ovh [(24, ⟨b15, 1, 210, true, [[.sl false 3 (List.map (eCommit false) a0.commits), .sl false 2 (List.map eHead a0.heads)]]⟩), (1000768, ent b16 c17 115 (List.map (eCommit true) [])), (1000769, ent b18 c19 130 (List.map eHead [])), (48, ⟨b20, 1, 210, true, [[.al 1000768 b16 c17 0 ([] : List Commit).length 115, .al 1000769 b18 c19 0 ([] : List Head).length 130]]⟩), (1001024, ent b22 c23 115 (List.map (eCommit true) q7.1)), (1001025, ent b25 c26 130 (List.map eHead q7.2)), (64, ⟨b27, 1, 210, true, [[.al 1001024 b22 c23 0 q7.1.length 115, .al 1001025 b25 c26 0 q7.2.length 130]]⟩)] o)) ?_ ?_
  · obtain ⟨x8, h9, h38⟩ := bnd h38
    refine go ?_; intros
    refine c_call (c := c_impl_cloneRepo) (a0) H_impl_cloneRepo h9 fun ch => ?_
    refine go ?_; intros
    cases h38
    exact k_cn ⟨_, _, _, _, _, _, _, _, _, _, _, pin, pinh⟩
  rintro t o ⟨b15, b16, c17, b18, c19, b20, b22, c23, b25, c26, b27, pq1, pq2⟩
  refine pinned pq1 pq2 ?_
  obtain ⟨x28, h29, h⟩ := bnd h
  refine go ?_; intros
  refine c_call (c := c_impl_Repo_head) (a0, a2) H_impl_Repo_head h29 fun ch => ?_
  refine go ?_; intros
  refine w_cond rfl (fun c => ?_) (fun c => ?_)
  · replace h := itt h c
    try rw [c]
    refine go ?_; intros
    cases h
    exact r_end
  replace h := itf h c
  try rw [c]
  obtain ⟨x30, h31, h⟩ := bnd h
  refine go ?_; intros
  refine c_call (c := c_impl_Repo_head) (a0, a1) H_impl_Repo_head h31 fun ch => ?_
  refine go ?_; intros
  refine s_split rfl (fun c => ?_) (fun c => ?_)
  · replace h := itt h c
    rw [c]
    refine go ?_; intros
    cases h
    exact r_end
  replace h := itf h c
  rw [c]
  refine go ?_; intros
  refine w_cond rfl (fun c => ?_) (fun c => ?_)
  · replace h := itt h (by first | exact c | (have c2 := c; simp only [List.length_map] at c2; exact c2))
    try rw [c]
    refine go ?_; intros
    cases h
    exact r_end
  replace h := itf h (by first | exact c | (have c2 := c; simp only [List.length_map] at c2; exact c2))
  try rw [c]
  obtain ⟨x32, h33, h⟩ := bnd h
  refine go ?_; intros
  refine r_iro rfl rfl h33 rfl ?_
  obtain ⟨h37, h⟩ := gd h
  refine go ?_; intros
  refine r_app (f := eHead) (xs := q7.2) (ys := ([(⟨a1, x32.at_⟩ : Head)] : (List Head))) rfl (src_mv rfl rfl (by first | rfl | simp)) rfl rfl (by first | rfl | simp) h37 fun b35 c36 => ?_
  refine go ?_; intros
  cases h
  exact r_end
theorem d_spec_DrawWordOk {G : Gam} (H_spec_l12Open : Has G c_spec_l12Open) (H_spec_l12Rd_of : Has G c_spec_l12Rd_of) (a0 : (List UInt8)) (g0 : Option Addr) (g1 : Nat) (r : Str) (h : gf_spec_DrawWordOk a0 = some r) : Does G if_spec_DrawWordOk ks_spec_DrawWordOk (c_spec_DrawWordOk.args (a0, g0, g1)) [] (c_spec_DrawWordOk.ans (a0, g0, g1) r) := by
  refine does_pn (L := [(0, .raw g0 g1 (List.map eU8 a0))]) (fun bs => pin) fun bs t o => ?_
  show vwp _ ib_spec_DrawWordOk _ _
  unfold ib_spec_DrawWordOk
  refine w_ir ?_
  unfold gf_spec_DrawWordOk at h
  obtain ⟨x1, h2, h⟩ := bnd h
  refine go ?_; intros
  refine c_call (c := c_spec_l12Open) (a0, g0, g1) H_spec_l12Open h2 fun ch => ?_
  obtain ⟨x5, h6, h⟩ := bnd h
  refine go ?_; intros
  refine c_callg (c := c_spec_l12Rd_of) (x1, ([(⟨#[97]⟩ : Str), (⟨#[111, 97, 107]⟩ : Str), (⟨#[]⟩ : Str), (⟨#[97, 98, 99, 100, 101, 102]⟩ : Str), (⟨#[97, 98, 99, 100, 101, 102, 103]⟩ : Str), (⟨#[65]⟩ : Str), (⟨#[97, 32, 98]⟩ : Str), (⟨#[120, 49]⟩ : Str)] : (List Str)), g0, g1) H_spec_l12Rd_of h6 fun ch => ?_
  refine go ?_; intros
  cases h
  exact r_end
theorem d_spec_DrawRepoNew {G : Gam} (H_spec_DrawWordOk : Has G c_spec_DrawWordOk) (a0 : (List UInt8)) (g0 : Option Addr) (g1 : Nat) (r : Str) (h : gf_spec_DrawRepoNew a0 = some r) : Does G if_spec_DrawRepoNew ks_spec_DrawRepoNew (c_spec_DrawRepoNew.args (a0, g0, g1)) [] (c_spec_DrawRepoNew.ans (a0, g0, g1) r) := by
  refine does_pn (L := [(0, .raw g0 g1 (List.map eU8 a0))]) (fun bs => pin) fun bs t o => ?_
  show vwp _ ib_spec_DrawRepoNew _ _
  unfold ib_spec_DrawRepoNew
  refine w_ir ?_
  unfold gf_spec_DrawRepoNew at h
  obtain ⟨x1, h2, h⟩ := bnd h
  refine go ?_; intros
  refine c_call (c := c_spec_DrawWordOk) (a0, g0, g1) H_spec_DrawWordOk h2 fun ch => ?_
  refine go ?_; intros
  cases h
  exact r_end
theorem d_impl_RepoNew {G : Gam} (H_impl_WordOk : Has G c_impl_WordOk) (a0 : Str) (r : (Repo × Bool)) (h : gf_impl_RepoNew a0 = some r) : Does G if_impl_RepoNew ks_impl_RepoNew (c_impl_RepoNew.args (a0)) [] (c_impl_RepoNew.ans (a0) r) := by
  refine does_pn (L := [(0, .v (.string a0))]) (fun bs => pin) fun bs t o => ?_
  show vwp _ ib_impl_RepoNew _ _
  unfold ib_impl_RepoNew
  refine w_ir ?_
  unfold gf_impl_RepoNew at h
  obtain ⟨x2, h3, h⟩ := bnd h
  refine go ?_; intros
  refine c_call (c := c_impl_WordOk) (a0) H_impl_WordOk h3 fun ch => ?_
  refine go ?_; intros
  refine w_cond rfl (fun c => ?_) (fun c => ?_)
  · replace h := itt h c
    try rw [c]
    refine go ?_; intros
    cases h
    exact r_end
  replace h := itf h c
  try rw [c]
  refine go ?_; intros
  try simp only [take_map_len, take_ent]
  refine go ?_; intros
  cases h
  exact r_end
theorem d_slices_Equal_impl_Head_impl_Head {G : Gam}  (a0 : (List Head)) (a1 : (List Head)) (r : Bool) (h : gf_slices_Equal_impl_Head_impl_Head a0 a1 = some r) : Does G if_slices_Equal_impl_Head_impl_Head ks_slices_Equal_impl_Head_impl_Head (c_slices_Equal_impl_Head_impl_Head.args (a0, a1)) [] (c_slices_Equal_impl_Head_impl_Head.ans (a0, a1) r) := by
  refine does_pn (L := [(0, .ro (List.map eHead a0)), (1, .ro (List.map eHead a1))]) (fun bs => pin) fun bs t o => ?_
  show vwp _ ib_slices_Equal_impl_Head_impl_Head _ _
  unfold ib_slices_Equal_impl_Head_impl_Head
  refine w_ir ?_
  unfold gf_slices_Equal_impl_Head_impl_Head at h
  refine go ?_; intros
  refine w_cond rfl (fun c => ?_) (fun c => ?_)
  · replace h := itt h (by first | exact c | (have c2 := c; simp only [List.length_map] at c2; exact c2))
    try rw [c]
    refine go ?_; intros
    cases h
    exact r_end
  replace h := itf h (by first | exact c | (have c2 := c; simp only [List.length_map] at c2; exact c2))
  try rw [c]
  obtain ⟨hf24, h⟩ := gd h
  obtain ⟨q14, h27, h⟩ := bnd h
  refine go ?_; intros
  refine w_last (fun t o => ∃ q14_, q14 = .inr q14_ ∧ Pin t (ovr [] t) ∧ PinH o (ovh [] o)) ?_ ?_
  · refine w_loop2 (fun n t o => ∃ l18 k16  , gl_slices_Equal_impl_Head_impl_Head_1 a1 l18 k16  = some q14 ∧ n = l18.length ∧ (a0).drop k16 = l18 ∧ Pin t (ovr [(0, .ro (List.map eHead a0)), (1, .ro (List.map eHead a1)), (12, .v (.int .i64 (a0.length : Int))), (13, .v (.int .i64 (k16 : Int)))] t) ∧ PinH o (ovh [] o)) _ ⟨_, _, h27, rfl, rfl, pin, pinh⟩ ?_
    rintro n t o ⟨l18, k16, h27, rfl, hd19, pq1, pq2⟩
    refine pinned pq1 pq2 ?_
    cases l18 with
    | nil =>
      have hge21 := drop_ge hd19
      rw [gl_slices_Equal_impl_Head_impl_Head_1] at h27
      refine go ?_; intros
      rw [hge21]
      refine go ?_; intros
      cases h27
      exact k_cn ⟨_, rfl, pin, pinh⟩
    | cons x17 l18 =>
      have hlt20 := drop_lt hd19
      have hx22 := drop_ix hd19
      have hw23 := drop_wr hd19 hf24
      rw [gl_slices_Equal_impl_Head_impl_Head_1] at h27
      refine go ?_; intros
      rw [hlt20]
      refine go ?_; intros
      refine r_iro rfl rfl hx22 rfl ?_
      obtain ⟨x25, h26, h27⟩ := bnd h27
      refine go ?_; intros
      refine r_iro rfl rfl h26 rfl ?_
      refine go ?_; intros
      refine w_cond rfl (fun c => ?_) (fun c => ?_)
      · replace h27 := itt h27 c
        try rw [c]
        refine go ?_; intros
        cases h27
        replace h : some _ = some _ := h
        cases h
        exact r_end
      replace h27 := itf h27 c
      try rw [c]
      refine go ?_; intros
      rw [hw23]
      exact k_ln2 _ (Nat.lt_succ_self _) ⟨_, _, h27, rfl, drop_next hd19, pin, pinh⟩
  rintro t o ⟨q14, rfl, pq1, pq2⟩
  refine pinnedQ pq1 pq2 ?_
  refine go ?_; intros
  cases h
  exact r_end
theorem d_slices_EqualFunc_impl_Commit_impl_Commit_impl_Commit_impl_Commit__impl_sameCommit {G : Gam} (H_impl_sameCommit : Has G c_impl_sameCommit) (a0 : (List Commit)) (a1 : (List Commit)) (r : Bool) (h : gf_slices_EqualFunc_impl_Commit_impl_Commit_impl_Commit_impl_Commit__impl_sameCommit a0 a1 = some r) : Does G if_slices_EqualFunc_impl_Commit_impl_Commit_impl_Commit_impl_Commit ks_slices_EqualFunc_impl_Commit_impl_Commit_impl_Commit_impl_Commit (c_slices_EqualFunc_impl_Commit_impl_Commit_impl_Commit_impl_Commit__impl_sameCommit.args (a0, a1)) [] (c_slices_EqualFunc_impl_Commit_impl_Commit_impl_Commit_impl_Commit__impl_sameCommit.ans (a0, a1) r) := by
  refine does_pn (L := [(0, .ro (List.map (eCommit false) a0)), (1, .ro (List.map (eCommit false) a1)), (2, .fn 330 [])]) (fun bs => pin) fun bs t o => ?_
  show vwp _ ib_slices_EqualFunc_impl_Commit_impl_Commit_impl_Commit_impl_Commit _ _
  unfold ib_slices_EqualFunc_impl_Commit_impl_Commit_impl_Commit_impl_Commit
  refine w_ir ?_
  unfold gf_slices_EqualFunc_impl_Commit_impl_Commit_impl_Commit_impl_Commit__impl_sameCommit at h
  refine go ?_; intros
  refine w_cond rfl (fun c => ?_) (fun c => ?_)
  · replace h := itt h (by first | exact c | (have c2 := c; simp only [List.length_map] at c2; exact c2))
    try rw [c]
    refine go ?_; intros
    cases h
    exact r_end
  replace h := itf h (by first | exact c | (have c2 := c; simp only [List.length_map] at c2; exact c2))
  try rw [c]
  obtain ⟨hf36, h⟩ := gd h
  obtain ⟨q26, h43, h⟩ := bnd h
  refine go ?_; intros
  refine w_last (fun t o => ∃ q26_, q26 = .inr q26_ ∧ Pin t (ovr [] t) ∧ PinH o (ovh [] o)) ?_ ?_
  · refine w_loop2 (fun n t o => ∃ l30 k28  , gl_slices_EqualFunc_impl_Commit_impl_Commit_impl_Commit_impl_Commit__impl_sameCommit_1 a1 l30 k28  = some q26 ∧ n = l30.length ∧ (a0).drop k28 = l30 ∧ Pin t (ovr [(1, .ro (List.map (eCommit false) a1)), (2, .fn 330 []), (15, .ro (List.map (eCommit false) a0)), (16, .v (.int .i64 (a0.length : Int))), (17, .v (.int .i64 (k28 : Int)))] t) ∧ PinH o (ovh [] o)) _ ⟨_, _, h43, rfl, rfl, pin, pinh⟩ ?_
    rintro n t o ⟨l30, k28, h43, rfl, hd31, pq1, pq2⟩
    refine pinned pq1 pq2 ?_
    cases l30 with
    | nil =>
      have hge33 := drop_ge hd31
      rw [gl_slices_EqualFunc_impl_Commit_impl_Commit_impl_Commit_impl_Commit__impl_sameCommit_1] at h43
      refine go ?_; intros
      rw [hge33]
      refine go ?_; intros
      cases h43
      exact k_cn ⟨_, rfl, pin, pinh⟩
    | cons x29 l30 =>
      have hlt32 := drop_lt hd31
      have hx34 := drop_ix hd31
      have hw35 := drop_wr hd31 hf36
      rw [gl_slices_EqualFunc_impl_Commit_impl_Commit_impl_Commit_impl_Commit__impl_sameCommit_1] at h43
      refine go ?_; intros
      rw [hlt32]
      refine go ?_; intros
      refine r_iro rfl rfl hx34 rfl ?_
      obtain ⟨x38, h39, h43⟩ := bnd h43
      refine go ?_; intros
      refine r_iro rfl rfl h39 rfl ?_
      obtain ⟨x41, h42, h43⟩ := bnd h43
      refine go ?_; intros
      refine c_calld (c := c_impl_sameCommit) (x29, x38) H_impl_sameCommit h42 fun ch => ?_
      refine go ?_; intros
      refine w_cond rfl (fun c => ?_) (fun c => ?_)
      · replace h43 := itt h43 c
        try rw [c]
        refine go ?_; intros
        cases h43
        replace h : some _ = some _ := h
        cases h
        exact r_end
      replace h43 := itf h43 c
      try rw [c]
      refine go ?_; intros
      rw [hw35]
      exact k_ln2 _ (Nat.lt_succ_self _) ⟨_, _, h43, rfl, drop_next hd31, pin, pinh⟩
  rintro t o ⟨q26, rfl, pq1, pq2⟩
  refine pinnedQ pq1 pq2 ?_
  refine go ?_; intros
  cases h
  exact r_end
theorem d_impl_RepoSame {G : Gam} (H_slices_EqualFunc_impl_Commit_impl_Commit_impl_Commit_impl_Commit__impl_sameCommit : Has G c_slices_EqualFunc_impl_Commit_impl_Commit_impl_Commit_impl_Commit__impl_sameCommit) (H_slices_Equal_impl_Head_impl_Head : Has G c_slices_Equal_impl_Head_impl_Head) (a0 : Repo) (a1 : Repo) (r : Bool) (h : gf_impl_RepoSame a0 a1 = some r) : Does G if_impl_RepoSame ks_impl_RepoSame (c_impl_RepoSame.args (a0, a1)) [] (c_impl_RepoSame.ans (a0, a1) r) := by
  refine does_pn (L := [(0, .agg [.ro (List.map (eCommit false) a0.commits), .ro (List.map eHead a0.heads)]), (1, .agg [.ro (List.map (eCommit false) a1.commits), .ro (List.map eHead a1.heads)])]) (fun bs => pin) fun bs t o => ?_
  show vwp _ ib_impl_RepoSame _ _
  unfold ib_impl_RepoSame
  refine w_ir ?_
  unfold gf_impl_RepoSame at h
  obtain ⟨x3, h4, h⟩ := bnd h
  refine go ?_; intros
  refine c_call (c := c_slices_EqualFunc_impl_Commit_impl_Commit_impl_Commit_impl_Commit__impl_sameCommit) (a0.commits, a1.commits) H_slices_EqualFunc_impl_Commit_impl_Commit_impl_Commit_impl_Commit__impl_sameCommit h4 fun ch => ?_
  refine go ?_; intros
  refine s_split rfl (fun c => ?_) (fun c => ?_)
  · replace h := itt h c
    rw [c]
    obtain ⟨x5, h6, h⟩ := bnd h
    refine go ?_; intros
    refine c_call (c := c_slices_Equal_impl_Head_impl_Head) (a0.heads, a1.heads) H_slices_Equal_impl_Head_impl_Head h6 fun ch => ?_
    refine go ?_; intros
    cases h
    exact r_end
  replace h := itf h c
  rw [c]
  refine go ?_; intros
  cases h
  exact r_end
theorem d_laws_FnRepoBranch {G : Gam} (H_spec_DrawRepoBranch : Has G c_spec_DrawRepoBranch) (H_impl_RepoBranch : Has G c_impl_RepoBranch) (H_spec_RepoBranch : Has G c_spec_RepoBranch) (H_spec_DrawRepoNew : Has G c_spec_DrawRepoNew) (H_impl_RepoNew : Has G c_impl_RepoNew) (H_spec_RepoNew : Has G c_spec_RepoNew) (H_impl_RepoSame : Has G c_impl_RepoSame) (H_impl_RepoOk : Has G c_impl_RepoOk) (H_impl_RepoAt : Has G c_impl_RepoAt) (H_impl_RepoDrop : Has G c_impl_RepoDrop) (a0 : (List UInt8)) (g0 : Option Addr) (g1 : Nat) (r : Bool) (h : gf_laws_FnRepoBranch a0 = some r) : Does G if_laws_FnRepoBranch ks_laws_FnRepoBranch (c_laws_FnRepoBranch.args (a0, g0, g1)) [] (c_laws_FnRepoBranch.ans (a0, g0, g1) r) := by
  refine does_pn (L := [(0, .raw g0 g1 (List.map eU8 a0))]) (fun bs => pin) fun bs t o => ?_
  show vwp _ ib_laws_FnRepoBranch _ _
  unfold ib_laws_FnRepoBranch
  refine w_ir ?_
  unfold gf_laws_FnRepoBranch at h
  refine go ?_; intros
  refine w_cond rfl (fun c => ?_) (fun c => ?_)
  · replace h := itt h (by first | exact c | (have c2 := c; simp only [List.length_map] at c2; exact c2))
    try rw [c]
    refine go ?_; intros
    cases h
    exact r_end
  replace h := itf h (by first | exact c | (have c2 := c; simp only [List.length_map] at c2; exact c2))
  try rw [c]
  refine go ?_; intros
  refine r_frz ?_
  obtain ⟨x1, h2, h⟩ := bnd h
  refine go ?_; intros
  refine c_call (c := c_spec_DrawRepoBranch) (a0, g0, g1) H_spec_DrawRepoBranch h2 fun ch => ?_
  refine go ?_; intros
  refine c_fz ?_
  obtain ⟨q8, h110, h⟩ := bnd h
  refine go ?_; intros
  refine w_cut (fun t o => ∃ b17 b19 c20 b22 c23 b24, Pin t (ovr [(0, .raw g0 g1 (List.map eU8 a0)), (3, .ptr 24 b17 210 0 0), (4, .v (.string x1.2.1)), (5, .v (.string x1.2.2)), (6, .ptr 48 b24 210 0 0), (7, .v (.int .i64 q8.1))] t) ∧ PinH o (ovh [(24, ⟨b17, 1, 210, true, [[.sl false 3 (List.map (eCommit false) x1.1.commits), .sl false 2 (List.map eHead x1.1.heads)]]⟩), (1000768, ent b19 c20 115 (List.map (eCommit true) q8.2.1)), (1000769, ent b22 c23 130 (List.map eHead q8.2.2)), (48, ⟨b24, 1, 210, true, [[.al 1000768 b19 c20 0 q8.2.1.length 115, .al 1000769 b22 c23 0 q8.2.2.length 130]]⟩)] o)) ?_ ?_
  · obtain ⟨x9, h10, h110⟩ := bnd h110
    refine go ?_; intros
    refine c_call (c := c_impl_RepoBranch) (x1.1, x1.2.1, x1.2.2) H_impl_RepoBranch h10 fun ch => ?_
    refine go ?_; intros
    cases h110
    exact k_cn ⟨_, _, _, _, _, _, pin, pinh⟩
  rintro t o ⟨b17, b19, c20, b22, c23, b24, pq1, pq2⟩
  refine pinned pq1 pq2 ?_
  obtain ⟨x25, h26, h⟩ := bnd h
  refine go ?_; intros
  refine c_call (c := c_spec_RepoBranch) (x1.1, x1.2.1, x1.2.2) H_spec_RepoBranch h26 fun ch => ?_
  refine go ?_; intros
  refine r_frz ?_
  obtain ⟨x32, h33, h⟩ := bnd h
  refine go ?_; intros
  refine c_call (c := c_spec_DrawRepoNew) (a0, g0, g1) H_spec_DrawRepoNew h33 fun ch => ?_
  refine go ?_; intros
  refine c_fz ?_
  obtain ⟨q34, h111, h⟩ := bnd h
  refine go ?_; intros
  refine w_cut (fun t o => ∃ b43 b44 c45 b46 c47 b48 b49 c50 b51 c52 b53 b55 c56 b58 c59 b60, Pin t (ovr [(3, .ptr 24 b43 210 0 0), (4, .v (.string x1.2.1)), (5, .v (.string x1.2.2)), (6, .ptr 48 b48 210 0 0), (7, .v (.int .i64 q8.1)), (8, .ptr 64 b53 210 0 0), (9, .v (.int .i64 x25.2)), (10, .v (.string x32)), (11, .ptr 88 b60 210 0 0), (12, .v (.bool q34.1))] t) ∧ PinH o (ovh [(24, ⟨b43, 1, 210, true, [[.sl false 3 (List.map (eCommit false) x1.1.commits), .sl false 2 (List.map eHead x1.1.heads)]]⟩), (1000768, ent b44 c45 115 (List.map (eCommit true) q8.2.1)), (1000769, ent b46 c47 130 (List.map eHead q8.2.2)), (48, ⟨b48, 1, 210, true, [[.al 1000768 b44 c45 0 q8.2.1.length 115, .al 1000769 b46 c47 0 q8.2.2.length 130]]⟩), (1001024, ent b49 c50 115 (List.map (eCommit true) x25.1.commits)), (1001025, ent b51 c52 130 (List.map eHead x25.1.heads)), (64, ⟨b53, 1, 210, true, [[.al 1001024 b49 c50 0 x25.1.commits.length 115, .al 1001025 b51 c52 0 x25.1.heads.length 130]]⟩), (1001408, ent b55 c56 115 (List.map (eCommit true) q34.2.1)), (1001409, ent b58 c59 130 (List.map eHead q34.2.2)), (88, ⟨b60, 1, 210, true, [[.al 1001408 b55 c56 0 q34.2.1.length 115, .al 1001409 b58 c59 0 q34.2.2.length 130]]⟩)] o)) ?_ ?_
  · obtain ⟨x35, h36, h111⟩ := bnd h111
    refine go ?_; intros
    refine c_call (c := c_impl_RepoNew) (x32) H_impl_RepoNew h36 fun ch => ?_
    refine go ?_; intros
    cases h111
    exact k_cn ⟨_, _, _, _, _, _, _, _, _, _, _, _, _, _, _, _, pin, pinh⟩
  rintro t o ⟨b43, b44, c45, b46, c47, b48, b49, c50, b51, c52, b53, b55, c56, b58, c59, b60, pq1, pq2⟩
  refine pinned pq1 pq2 ?_
  obtain ⟨x61, h62, h⟩ := bnd h
  refine go ?_; intros
  refine c_call (c := c_spec_RepoNew) (x32) H_spec_RepoNew h62 fun ch => ?_
  obtain ⟨q76, h112, h⟩ := bnd h
  refine go ?_; intros
  refine w_cut (fun t o => ∃ q76_, q76 = .inr q76_ ∧ ∃ b85 b86 c87 b88 c89 b90, Pin t (ovr [(3, .ptr 24 b85 210 0 0), (4, .v (.string x1.2.1)), (5, .v (.string x1.2.2)), (6, .ptr 48 b90 210 0 0), (7, .v (.int .i64 q8.1))] t) ∧ PinH o (ovh [(24, ⟨b85, 1, 210, true, [[.sl false 3 (List.map (eCommit false) x1.1.commits), .sl false 2 (List.map eHead x1.1.heads)]]⟩), (1000768, ent b86 c87 115 (List.map (eCommit true) q8.2.1)), (1000769, ent b88 c89 130 (List.map eHead q8.2.2)), (48, ⟨b90, 1, 210, true, [[.al 1000768 b86 c87 0 q8.2.1.length 115, .al 1000769 b88 c89 0 q8.2.2.length 130]]⟩)] o)) ?_ ?_
  · refine go ?_; intros
    refine s_split rfl (fun c => ?_) (fun c => ?_)
    · replace h112 := itt h112 c
      rw [c]
      refine go ?_; intros
      cases h112
      replace h : some _ = some _ := h
      cases h
      exact r_end
    replace h112 := itf h112 c
    rw [c]
    obtain ⟨x77, h78, h112⟩ := bnd h112
    refine go ?_; intros
    refine c_call (c := c_impl_RepoSame) ((⟨q8.2.1, q8.2.2⟩ : Repo), x25.1) H_impl_RepoSame h78 fun ch => ?_
    refine go ?_; intros
    refine s_split rfl (fun c => ?_) (fun c => ?_)
    · replace h112 := itt h112 c
      rw [c]
      refine go ?_; intros
      cases h112
      replace h : some _ = some _ := h
      cases h
      exact r_end
    replace h112 := itf h112 c
    rw [c]
    refine go ?_; intros
    refine s_split rfl (fun c => ?_) (fun c => ?_)
    · replace h112 := itt h112 c
      rw [c]
      refine go ?_; intros
      cases h112
      replace h : some _ = some _ := h
      cases h
      exact r_end
    replace h112 := itf h112 c
    rw [c]
    obtain ⟨x79, h80, h112⟩ := bnd h112
    refine go ?_; intros
    refine c_call (c := c_impl_RepoSame) ((⟨q34.2.1, q34.2.2⟩ : Repo), x61.1) H_impl_RepoSame h80 fun ch => ?_
    refine go ?_; intros
    refine s_split rfl (fun c => ?_) (fun c => ?_)
    · replace h112 := itt h112 c
      rw [c]
      refine go ?_; intros
      cases h112
      replace h : some _ = some _ := h
      cases h
      exact r_end
    replace h112 := itf h112 c
    rw [c]
    refine go ?_; intros
    refine s_split rfl (fun c => ?_) (fun c => ?_)
    · replace h112 := itt h112 c
      rw [c]
      obtain ⟨x81, h82, h112⟩ := bnd h112
      refine go ?_; intros
      refine c_call (c := c_impl_RepoOk) ((⟨q34.2.1, q34.2.2⟩ : Repo)) H_impl_RepoOk h82 fun ch => ?_
      refine go ?_; intros
      refine s_split rfl (fun c => ?_) (fun c => ?_)
      · replace h112 := itt h112 c
        rw [c]
        refine go ?_; intros
        cases h112
        replace h : some _ = some _ := h
        cases h
        exact r_end
      replace h112 := itf h112 c
      rw [c]
      obtain ⟨x83, h84, h112⟩ := bnd h112
      refine go ?_; intros
      refine c_call (c := c_impl_RepoAt) ((⟨q34.2.1, q34.2.2⟩ : Repo), x32) H_impl_RepoAt h84 fun ch => ?_
      refine go ?_; intros
      refine w_cond rfl (fun c => ?_) (fun c => ?_)
      · replace h112 := itt h112 c
        try rw [c]
        refine go ?_; intros
        cases h112
        replace h : some _ = some _ := h
        cases h
        exact r_end
      replace h112 := itf h112 c
      try rw [c]
      refine go ?_; intros
      cases h112
      exact k_cn ⟨_, rfl, _, _, _, _, _, _, pin, pinh⟩
    replace h112 := itf h112 c
    rw [c]
    refine go ?_; intros
    cases h112
    exact k_cn ⟨_, rfl, _, _, _, _, _, _, pin, pinh⟩
  rintro t o ⟨q76, rfl, b85, b86, c87, b88, c89, b90, pq1, pq2⟩
  refine pinned pq1 pq2 ?_
  refine go ?_; intros
  refine w_cond rfl (fun c => ?_) (fun c => ?_)
  · replace h := itt h c
    try rw [c]
    refine go ?_; intros
    refine s_split rfl (fun c => ?_) (fun c => ?_)
    · replace h := itt h c
      rw [c]
      refine go ?_; intros
      refine s_split rfl (fun c => ?_) (fun c => ?_)
      · replace h := itt h (by first | exact c | (have c2 := c; simp only [List.length_map] at c2; exact c2))
        rw [c]
        refine go ?_; intros
        cases h
        exact r_end
      replace h := itf h (by first | exact c | (have c2 := c; simp only [List.length_map] at c2; exact c2))
      rw [c]
      obtain ⟨x91, h92, h⟩ := bnd h
      refine go ?_; intros
      refine c_call (c := c_impl_RepoSame) ((⟨q8.2.1, q8.2.2⟩ : Repo), x1.1) H_impl_RepoSame h92 fun ch => ?_
      refine go ?_; intros
      cases h
      exact r_end
    replace h := itf h c
    rw [c]
    obtain ⟨x93, h94, h⟩ := bnd h
    refine go ?_; intros
    refine c_call (c := c_impl_RepoSame) ((⟨q8.2.1, q8.2.2⟩ : Repo), x1.1) H_impl_RepoSame h94 fun ch => ?_
    refine go ?_; intros
    cases h
    exact r_end
  replace h := itf h c
  try rw [c]
  obtain ⟨x95, h96, h⟩ := bnd h
  refine go ?_; intros
  refine c_call (c := c_impl_RepoDrop) ((⟨q8.2.1, q8.2.2⟩ : Repo), x1.2.1) H_impl_RepoDrop h96 fun ch => ?_
  obtain ⟨x102, h103, h⟩ := bnd h
  refine go ?_; intros
  refine c_call (c := c_impl_RepoOk) ((⟨q8.2.1, q8.2.2⟩ : Repo)) H_impl_RepoOk h103 fun ch => ?_
  refine go ?_; intros
  refine s_split rfl (fun c => ?_) (fun c => ?_)
  · replace h := itt h c
    rw [c]
    obtain ⟨x104, h105, h⟩ := bnd h
    refine go ?_; intros
    refine c_call (c := c_impl_RepoAt) ((⟨q8.2.1, q8.2.2⟩ : Repo), x1.2.1) H_impl_RepoAt h105 fun ch => ?_
    obtain ⟨x106, h107, h⟩ := bnd h
    refine go ?_; intros
    refine c_call (c := c_impl_RepoAt) (x1.1, x1.2.2) H_impl_RepoAt h107 fun ch => ?_
    refine go ?_; intros
    refine s_split rfl (fun c => ?_) (fun c => ?_)
    · replace h := itt h c
      rw [c]
      refine go ?_; intros
      refine s_split rfl (fun c => ?_) (fun c => ?_)
      · replace h := itt h c
        rw [c]
        obtain ⟨x108, h109, h⟩ := bnd h
        refine go ?_; intros
        refine c_call (c := c_impl_RepoSame) (x95.1, x1.1) H_impl_RepoSame h109 fun ch => ?_
        refine go ?_; intros
        cases h
        exact r_end
      replace h := itf h c
      rw [c]
      refine go ?_; intros
      cases h
      exact r_end
    replace h := itf h c
    rw [c]
    refine go ?_; intros
    cases h
    exact r_end
  replace h := itf h c
  rw [c]
  refine go ?_; intros
  cases h
  exact r_end
end Go.Proofs.AM
