/- A part of the proof of 'FnExactJoinBaseSaid' (QF14): lemmas on an abstract machine for the program's functions. Conditions: none. -/
import Derived.Test.YtggnnoghnkcmpaaQD
set_option linter.unusedVariables false
set_option maxRecDepth 100000
set_option maxHeartbeats 4000000
namespace Go.Proofs.AM
attribute [local irreducible] vwp vstps vstpLs vstp vdo vret kseq kblk kloop kend kcut kloop2 frzV renV shutK
theorem d_impl_SyncSame {G : Gam} (H_impl_RepoOk : Has G c_impl_RepoOk) (H_impl_Repo_version : Has G c_impl_Repo_version) (H_impl_alike : Has G c_impl_alike) (a0 : Repo) (a1 : Int) (a2 : Repo) (a3 : Int) (r : Bool) (h : gf_impl_SyncSame a0 a1 a2 a3 = some r) : Does G if_impl_SyncSame ks_impl_SyncSame (c_impl_SyncSame.args (a0, a1, a2, a3)) [] (c_impl_SyncSame.ans r) := by
  refine does_pn (L := [(0, .agg [.ro (List.map (eCommit false) a0.commits), .ro (List.map eHead a0.heads)]), (1, .v (.int .i64 a1)), (2, .agg [.ro (List.map (eCommit false) a2.commits), .ro (List.map eHead a2.heads)]), (3, .v (.int .i64 a3))]) (fun bs => pin) fun bs t o => ?_
  show vwp _ ib_impl_SyncSame _ _
  unfold ib_impl_SyncSame
  unfold gf_impl_SyncSame at h
  obtain ⟨x3, h4, h⟩ := bnd h
  refine go ?_; intros
  refine c_call (c := c_impl_RepoOk) (a0) H_impl_RepoOk h4 fun ch => ?_
  refine go ?_; intros
  refine s_split rfl (fun c => ?_) (fun c => ?_)
  · replace h := itt h c
    rw [c]
    obtain ⟨x5, h6, h⟩ := bnd h
    refine go ?_; intros
    refine c_call (c := c_impl_RepoOk) (a2) H_impl_RepoOk h6 fun ch => ?_
    refine go ?_; intros
    refine s_split rfl (fun c => ?_) (fun c => ?_)
    · replace h := itt h c
      rw [c]
      obtain ⟨x7, h8, h⟩ := bnd h
      refine go ?_; intros
      refine c_call (c := c_impl_Repo_version) (a0, a1) H_impl_Repo_version h8 fun ch => ?_
      refine go ?_; intros
      refine s_split rfl (fun c => ?_) (fun c => ?_)
      · replace h := itt h c
        rw [c]
        obtain ⟨x9, h10, h⟩ := bnd h
        refine go ?_; intros
        refine c_call (c := c_impl_Repo_version) (a2, a3) H_impl_Repo_version h10 fun ch => ?_
        refine go ?_; intros
        refine s_split rfl (fun c => ?_) (fun c => ?_)
        · replace h := itt h c
          rw [c]
          obtain ⟨x11, h12, h⟩ := bnd h
          refine go ?_; intros
          refine c_call (c := c_impl_alike) (a0, a2) H_impl_alike h12 fun ch => ?_
          obtain ⟨x15, h16, h⟩ := bnd h
          refine go ?_; intros
          refine r_ire (xs := x11) rfl rfl h16 rfl ?_
          refine go ?_; intros
          refine r_lop (f := (eSl true 33 eBool)) (g := eBool) (xs := x11) (x := x15) (idx_get h16).2 rfl rfl rfl fun b17 c18 => ?_
          obtain ⟨x19, h20, h⟩ := bnd h
          refine go ?_; intros
          refine r_ire (xs := x15) rfl rfl h20 rfl ?_
          refine go ?_; intros
          refine r_shut ?_
          refine go ?_; intros
          refine r_lde (f := eBool) (xs := x15) (x := x19) rfl rfl (idx_get h20).2 rfl rfl rfl ?_
          refine go ?_; intros
          refine k_sh0 (f := (eSl true 33 eBool)) (g := eBool) (idx_get h16).2 ?_
          refine go ?_; intros
          cases h
          exact r_end
        replace h := itf h c
        rw [c]
        refine go ?_; intros
        cases h
        exact r_end
      replace h := itf h c
      rw [c]
      refine go ?_; intros
      cases h
      exact r_end
    replace h := itf h c
    rw [c]
    refine go ?_; intros
    cases h
    exact r_end
  replace h := itf h c
  rw [c]
  refine go ?_; intros
  cases h
  exact r_end
theorem d_laws_FnExactSyncSame {G : Gam} (H_laws_szRepo : Has G c_laws_szRepo) (H_laws_toRepo : Has G c_laws_toRepo) (H_spec_SyncSame : Has G c_spec_SyncSame) (H_impl_SyncSame : Has G c_impl_SyncSame) (H_laws_eqRepo : Has G c_laws_eqRepo) (a0 : Repo) (a1 : Int) (a2 : Repo) (a3 : Int) (r : Bool) (h : gf_laws_FnExactSyncSame a0 a1 a2 a3 = some r) : Does G if_laws_FnExactSyncSame ks_laws_FnExactSyncSame (c_laws_FnExactSyncSame.args (a0, a1, a2, a3)) [] (c_laws_FnExactSyncSame.ans r) := by
  refine does_pn (L := [(0, .agg [.ro (List.map (eCommit false) a0.commits), .ro (List.map eHead a0.heads)]), (1, .v (.int .i64 a1)), (2, .agg [.ro (List.map (eCommit false) a2.commits), .ro (List.map eHead a2.heads)]), (3, .v (.int .i64 a3))]) (fun bs => pin) fun bs t o => ?_
  show vwp _ ib_laws_FnExactSyncSame _ _
  unfold ib_laws_FnExactSyncSame
  unfold gf_laws_FnExactSyncSame at h
  obtain ⟨x3, h4, h⟩ := bnd h
  refine go ?_; intros
  refine c_call (c := c_laws_szRepo) (a0, 1048576) H_laws_szRepo h4 fun ch => ?_
  refine go ?_; intros
  refine w_cond rfl (fun c => ?_) (fun c => ?_)
  · replace h := itt h c
    try rw [c]
    refine go ?_; intros
    cases h
    exact r_end
  replace h := itf h c
  try rw [c]
  obtain ⟨x5, h6, h⟩ := bnd h
  refine go ?_; intros
  refine c_call (c := c_laws_szRepo) (a2, x3) H_laws_szRepo h6 fun ch => ?_
  refine go ?_; intros
  refine w_cond rfl (fun c => ?_) (fun c => ?_)
  · replace h := itt h c
    try rw [c]
    refine go ?_; intros
    cases h
    exact r_end
  replace h := itf h c
  try rw [c]
  obtain ⟨x7, h8, h⟩ := bnd h
  refine go ?_; intros
  refine c_call (c := c_laws_toRepo) (a0) H_laws_toRepo h8 fun ch => ?_
  obtain ⟨x13, h14, h⟩ := bnd h
  refine go ?_; intros
  refine c_call (c := c_laws_toRepo) (a2) H_laws_toRepo h14 fun ch => ?_
  obtain ⟨x19, h20, h⟩ := bnd h
  refine go ?_; intros
  refine c_call (c := c_spec_SyncSame) (x7, a1, x13, a3) H_spec_SyncSame h20 fun ch => ?_
  obtain ⟨q21, h63, h⟩ := bnd h
  refine go ?_; intros
  refine w_cut (fun t o => ∃ b29 b30 b32 c33 b35 c36 b37, Pin t (ovr [(1, .v (.int .i64 a1)), (3, .v (.int .i64 a3)), (4, .ptr 32 b29 466 0 0), (6, .ptr 48 b30 466 0 0), (10, .v (.bool x19)), (11, .ptr 88 b37 210 0 0)] t) ∧ PinH o (ovh [(32, ⟨b29, 1, 466, true, [[.sl false 3 (List.map (eCommit false) a0.commits), .sl false 2 (List.map eHead a0.heads)]]⟩), (48, ⟨b30, 1, 466, true, [[.sl false 3 (List.map (eCommit false) a2.commits), .sl false 2 (List.map eHead a2.heads)]]⟩), (1001408, ent b32 c33 115 (List.map (eCommit true) q21.1)), (1001409, ent b35 c36 130 (List.map eHead q21.2)), (88, ⟨b37, 1, 210, true, [[.al 1001408 b32 c33 0 q21.1.length 115, .al 1001409 b35 c36 0 q21.2.length 130]]⟩)] o)) ?_ ?_
  · obtain ⟨x22, h23, h63⟩ := bnd h63
    refine go ?_; intros
    refine c_call (c := c_laws_toRepo) (a0) H_laws_toRepo h23 fun ch => ?_
    refine go ?_; intros
    cases h63
    exact k_cn ⟨_, _, _, _, _, _, _, pin, pinh⟩
  rintro t o ⟨b29, b30, b32, c33, b35, c36, b37, q1, q2⟩
  refine pinned q1 q2 ?_
  obtain ⟨x38, h39, h⟩ := bnd h
  refine go ?_; intros
  refine c_call (c := c_laws_toRepo) (a2) H_laws_toRepo h39 fun ch => ?_
  obtain ⟨x45, h46, h⟩ := bnd h
  refine go ?_; intros
  refine c_call (c := c_impl_SyncSame) ((⟨q21.1, q21.2⟩ : Repo), a1, x38, a3) H_impl_SyncSame h46 fun ch => ?_
  refine go ?_; intros
  refine w_cond rfl (fun c => ?_) (fun c => ?_)
  · replace h := itt h c
    try rw [c]
    refine go ?_; intros
    cases h
    exact r_end
  replace h := itf h c
  try rw [c]
  obtain ⟨x47, h48, h⟩ := bnd h
  refine go ?_; intros
  refine c_call (c := c_laws_toRepo) (a0) H_laws_toRepo h48 fun ch => ?_
  obtain ⟨x53, h54, h⟩ := bnd h
  refine go ?_; intros
  refine c_call (c := c_laws_eqRepo) ((⟨q21.1, q21.2⟩ : Repo), x47) H_laws_eqRepo h54 fun ch => ?_
  refine go ?_; intros
  refine w_cond rfl (fun c => ?_) (fun c => ?_)
  · replace h := itt h c
    try rw [c]
    refine go ?_; intros
    cases h
    exact r_end
  replace h := itf h c
  try rw [c]
  obtain ⟨x55, h56, h⟩ := bnd h
  refine go ?_; intros
  refine c_call (c := c_laws_toRepo) (a2) H_laws_toRepo h56 fun ch => ?_
  obtain ⟨x61, h62, h⟩ := bnd h
  refine go ?_; intros
  refine c_call (c := c_laws_eqRepo) (x38, x55) H_laws_eqRepo h62 fun ch => ?_
  refine go ?_; intros
  refine w_cond rfl (fun c => ?_) (fun c => ?_)
  · replace h := itt h c
    try rw [c]
    refine go ?_; intros
    cases h
    exact r_end
  replace h := itf h c
  try rw [c]
  refine go ?_; intros
  cases h
  exact r_end
theorem d_impl_SyncFind_1 {G : Gam}  (a0 : (List Bool)) (a1 : Int) (r : Bool) (h : gf_impl_SyncFind_1 a0 a1 = some r) : Does G if_impl_SyncFind_1 ks_impl_SyncFind_1 (c_impl_SyncFind_1.args (a0, a1)) [] (c_impl_SyncFind_1.ans r) := by
  refine does_pn (L := [(0, .ro (List.map eBool a0)), (1, .rptr [.v (.int .i64 a1)])]) (fun bs => pin) fun bs t o => ?_
  show vwp _ ib_impl_SyncFind_1 _ _
  unfold ib_impl_SyncFind_1
  unfold gf_impl_SyncFind_1 at h
  obtain ⟨x1, h2, h⟩ := bnd h
  refine go ?_; intros
  refine r_iro rfl rfl h2 rfl ?_
  refine go ?_; intros
  cases h
  exact r_end
theorem d_slices_IndexFunc_bool_bool__impl_SyncFind_1 {G : Gam} (H_impl_SyncFind_1 : Has G c_impl_SyncFind_1) (a0 : (List (List Bool))) (a1 : Int) (r : Int) (h : gf_slices_IndexFunc_bool_bool__impl_SyncFind_1 a0 a1 = some r) : Does G if_slices_IndexFunc_bool_bool ks_slices_IndexFunc_bool_bool (c_slices_IndexFunc_bool_bool__impl_SyncFind_1.args (a0, a1)) [] (c_slices_IndexFunc_bool_bool__impl_SyncFind_1.ans r) := by
  refine does_pn (L := [(0, .ro (List.map (eSl false 33 eBool) a0)), (1, .fn 322 [.rptr [.v (.int .i64 a1)]])]) (fun bs => pin) fun bs t o => ?_
  show vwp _ ib_slices_IndexFunc_bool_bool _ _
  unfold ib_slices_IndexFunc_bool_bool
  unfold gf_slices_IndexFunc_bool_bool__impl_SyncFind_1 at h
  obtain ⟨hf24, h⟩ := gd h
  obtain ⟨q14, h27, h⟩ := bnd h
  refine go ?_; intros
  refine w_last (fun t o => ∃ q14_, q14 = .inr q14_ ∧ Pin t (ovr [] t) ∧ PinH o (ovh [] o)) ?_ ?_
  · refine w_loop2 (fun n t o => ∃ l18 k16  , gl_slices_IndexFunc_bool_bool__impl_SyncFind_1_1 a1 l18 k16  = some q14 ∧ n = l18.length ∧ (a0).drop k16 = l18 ∧ Pin t (ovr [(0, .ro (List.map (eSl false 33 eBool) a0)), (1, .fn 322 [.rptr [.v (.int .i64 a1)]]), (7, .v (.int .i64 (a0.length : Int))), (8, .v (.int .i64 (k16 : Int)))] t) ∧ PinH o (ovh [] o)) _ ⟨_, _, h27, rfl, rfl, pin, pinh⟩ ?_
    rintro n t o ⟨l18, k16, h27, rfl, hd19, q1, q2⟩
    refine pinned q1 q2 ?_
    cases l18 with
    | nil =>
      have hge21 := drop_ge hd19
      rw [gl_slices_IndexFunc_bool_bool__impl_SyncFind_1_1] at h27
      refine go ?_; intros
      rw [hge21]
      refine go ?_; intros
      cases h27
      exact k_cn ⟨_, rfl, pin, pinh⟩
    | cons x17 l18 =>
      have hlt20 := drop_lt hd19
      have hx22 := drop_ix hd19
      have hw23 := drop_wr hd19 hf24
      rw [gl_slices_IndexFunc_bool_bool__impl_SyncFind_1_1] at h27
      refine go ?_; intros
      rw [hlt20]
      refine go ?_; intros
      refine r_iro rfl rfl hx22 rfl ?_
      obtain ⟨x25, h26, h27⟩ := bnd h27
      refine go ?_; intros
      refine c_calld (c := c_impl_SyncFind_1) (x17, a1) H_impl_SyncFind_1 h26 fun ch => ?_
      refine go ?_; intros
      refine w_cond rfl (fun c => ?_) (fun c => ?_)
      · replace h27 := itt h27 c
        try rw [c]
        refine go ?_; intros
        cases h27
        replace h : some _ = some _ := h
        cases h
        exact r_end
      replace h27 := itf h27 c
      try rw [c]
      refine go ?_; intros
      rw [hw23]
      exact k_ln2 _ (Nat.lt_succ_self _) ⟨_, _, h27, rfl, drop_next hd19, pin, pinh⟩
  rintro t o ⟨q14, rfl, q1, q2⟩
  refine pinnedQ q1 q2 ?_
  refine go ?_; intros
  cases h
  exact r_end
theorem d_impl_SyncFind {G : Gam} (H_impl_RepoOk : Has G c_impl_RepoOk) (H_impl_Repo_version : Has G c_impl_Repo_version) (H_impl_alike : Has G c_impl_alike) (H_slices_IndexFunc_bool_bool__impl_SyncFind_1 : Has G c_slices_IndexFunc_bool_bool__impl_SyncFind_1) (a0 : Repo) (a1 : Repo) (a2 : Int) (r : Int) (h : gf_impl_SyncFind a0 a1 a2 = some r) : Does G if_impl_SyncFind ks_impl_SyncFind (c_impl_SyncFind.args (a0, a1, a2)) [] (c_impl_SyncFind.ans r) := by
  refine does_pn (L := [(0, .agg [.ro (List.map (eCommit false) a0.commits), .ro (List.map eHead a0.heads)]), (1, .agg [.ro (List.map (eCommit false) a1.commits), .ro (List.map eHead a1.heads)]), (2, .v (.int .i64 a2))]) (fun bs => pin) fun bs t o => ?_
  show vwp _ ib_impl_SyncFind _ _
  unfold ib_impl_SyncFind
  unfold gf_impl_SyncFind at h
  obtain ⟨x4, h5, h⟩ := bnd h
  refine go ?_; intros
  refine c_call (c := c_impl_RepoOk) (a0) H_impl_RepoOk h5 fun ch => ?_
  refine go ?_; intros
  refine s_split rfl (fun c => ?_) (fun c => ?_)
  · replace h := itt h c
    rw [c]
    refine go ?_; intros
    cases h
    exact r_end
  replace h := itf h c
  rw [c]
  obtain ⟨x6, h7, h⟩ := bnd h
  refine go ?_; intros
  refine c_call (c := c_impl_RepoOk) (a1) H_impl_RepoOk h7 fun ch => ?_
  refine go ?_; intros
  refine s_split rfl (fun c => ?_) (fun c => ?_)
  · replace h := itt h c
    rw [c]
    refine go ?_; intros
    cases h
    exact r_end
  replace h := itf h c
  rw [c]
  obtain ⟨x8, h9, h⟩ := bnd h
  refine go ?_; intros
  refine c_call (c := c_impl_Repo_version) (a1, a2) H_impl_Repo_version h9 fun ch => ?_
  refine go ?_; intros
  refine w_cond rfl (fun c => ?_) (fun c => ?_)
  · replace h := itt h c
    try rw [c]
    refine go ?_; intros
    cases h
    exact r_end
  replace h := itf h c
  try rw [c]
  obtain ⟨x10, h11, h⟩ := bnd h
  refine go ?_; intros
  refine c_call (c := c_impl_alike) (a0, a1) H_impl_alike h11 fun ch => ?_
  obtain ⟨x14, h15, h⟩ := bnd h
  refine go ?_; intros
  refine c_call (c := c_slices_IndexFunc_bool_bool__impl_SyncFind_1) (x10, a2) H_slices_IndexFunc_bool_bool__impl_SyncFind_1 h15 fun ch => ?_
  refine go ?_; intros
  cases h
  exact r_end
theorem d_spec_l10Find {G : Gam} (H_spec_l10Same : Has G (c_spec_l10Same rounds)) (a0 : Repo) (a1 : Repo) (a2 : Int) (r : Int) (h : gf_spec_l10Find a0 a1 a2 = some r) : Does G if_spec_l10Find ks_spec_l10Find (c_spec_l10Find.args (a0, a1, a2)) [] (c_spec_l10Find.ans r) := by
  refine does_pn (L := [(0, .agg [.ro (List.map (eCommit false) a0.commits), .ro (List.map eHead a0.heads)]), (1, .agg [.ro (List.map (eCommit false) a1.commits), .ro (List.map eHead a1.heads)]), (2, .v (.int .i64 a2))]) (fun bs => pin) fun bs t o => ?_
  show vwp _ ib_spec_l10Find _ _
  unfold ib_spec_l10Find
  unfold gf_spec_l10Find at h
  obtain ⟨hf26, h⟩ := gd h
  obtain ⟨q14, h29, h⟩ := bnd h
  refine go ?_; intros
  refine w_last (fun t o => ∃ q14_, q14 = .inr q14_ ∧ Pin t (ovr [] t) ∧ PinH o (ovh [] o)) ?_ ?_
  · refine w_loop2 (fun n t o => ∃ l20 k18  b16 b17, gl_spec_l10Find_1 a0 a1 a2 l20 k18  = some q14 ∧ n = l20.length ∧ (a0.commits).drop k18 = l20 ∧ Pin t (ovr [(2, .v (.int .i64 a2)), (3, .ptr 24 b16 210 0 0), (4, .ptr 32 b17 210 0 0), (7, .v (.int .i64 (k18 : Int)))] t) ∧ PinH o (ovh [(24, ⟨b16, 1, 210, true, [[.sl false 3 (List.map (eCommit false) a0.commits), .sl false 2 (List.map eHead a0.heads)]]⟩), (32, ⟨b17, 1, 210, true, [[.sl false 3 (List.map (eCommit false) a1.commits), .sl false 2 (List.map eHead a1.heads)]]⟩)] o)) _ ⟨_, _, _, _, h29, rfl, rfl, pin, pinh⟩ ?_
    rintro n t o ⟨l20, k18, b16, b17, h29, rfl, hd21, q1, q2⟩
    refine pinned q1 q2 ?_
    cases l20 with
    | nil =>
      have hge23 := drop_ge hd21
      rw [gl_spec_l10Find_1] at h29
      refine go ?_; intros
      rw [hge23]
      refine go ?_; intros
      cases h29
      exact k_cn ⟨_, rfl, pin, pinh⟩
    | cons x19 l20 =>
      have hlt22 := drop_lt hd21
      have hx24 := drop_ix hd21
      have hw25 := drop_wr hd21 hf26
      rw [gl_spec_l10Find_1] at h29
      refine go ?_; intros
      rw [hlt22]
      obtain ⟨x27, h28, h29⟩ := bnd h29
      refine go ?_; intros
      refine c_call (c := (c_spec_l10Same rounds)) (a0, (k18 : Int), a1, a2) H_spec_l10Same h28 fun ch => ?_
      refine go ?_; intros
      refine w_cond rfl (fun c => ?_) (fun c => ?_)
      · replace h29 := itt h29 c
        try rw [c]
        refine go ?_; intros
        cases h29
        replace h : some _ = some _ := h
        cases h
        exact r_end
      replace h29 := itf h29 c
      try rw [c]
      refine go ?_; intros
      rw [hw25]
      exact k_ln2 _ (Nat.lt_succ_self _) ⟨_, _, _, _, h29, rfl, drop_next hd21, pin, pinh⟩
  rintro t o ⟨q14, rfl, q1, q2⟩
  refine pinnedQ q1 q2 ?_
  refine go ?_; intros
  cases h
  exact r_end
end Go.Proofs.AM
