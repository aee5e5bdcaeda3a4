/- A part of the proof of 'FnExactJoinBaseSaid' (QF15): lemmas on an abstract machine for the program's functions. Conditions: none. -/
import Derived.Test.YtggnnoghnkcmpaaQD
set_option linter.unusedVariables false
set_option maxRecDepth 100000
set_option maxHeartbeats 4000000
namespace Go.Proofs.AM
attribute [local irreducible] vwp vstps vstpLs vstp vdo vret kseq kblk kloop kend kcut kloop2 frzV renV shutK
theorem d_spec_SyncFind {G : Gam} (H_spec_RepoOk : Has G c_spec_RepoOk) (H_spec_l7In : Has G c_spec_l7In) (H_spec_l10Find : Has G c_spec_l10Find) (a0 : Repo) (a1 : Repo) (a2 : Int) (r : Int) (h : gf_spec_SyncFind a0 a1 a2 = some r) : Does G if_spec_SyncFind ks_spec_SyncFind (c_spec_SyncFind.args (a0, a1, a2)) [] (c_spec_SyncFind.ans r) := by
  refine does_pn (L := [(0, .agg [.ro (List.map (eCommit false) a0.commits), .ro (List.map eHead a0.heads)]), (1, .agg [.ro (List.map (eCommit false) a1.commits), .ro (List.map eHead a1.heads)]), (2, .v (.int .i64 a2))]) (fun bs => pin) fun bs t o => ?_
  show vwp _ ib_spec_SyncFind _ _
  unfold ib_spec_SyncFind
  unfold gf_spec_SyncFind at h
  obtain ⟨x3, h4, h⟩ := bnd h
  refine go ?_; intros
  refine c_call (c := c_spec_RepoOk) (a0) H_spec_RepoOk h4 fun ch => ?_
  refine go ?_; intros
  refine s_split rfl (fun c => ?_) (fun c => ?_)
  · replace h := itt h c
    rw [c]
    refine go ?_; intros
    cases h
    exact r_end
  replace h := itf h c
  rw [c]
  obtain ⟨x5, h6, h⟩ := bnd h
  refine go ?_; intros
  refine c_call (c := c_spec_l7In) (a1, a2) H_spec_l7In h6 fun ch => ?_
  refine go ?_; intros
  refine w_cond rfl (fun c => ?_) (fun c => ?_)
  · replace h := itt h c
    try rw [c]
    refine go ?_; intros
    cases h
    exact r_end
  replace h := itf h c
  try rw [c]
  obtain ⟨x7, h8, h⟩ := bnd h
  refine go ?_; intros
  refine c_call (c := c_spec_l10Find) (a0, a1, a2) H_spec_l10Find h8 fun ch => ?_
  refine go ?_; intros
  cases h
  exact r_end
theorem d_laws_FnExactSyncFind {G : Gam} (H_laws_szRepo : Has G c_laws_szRepo) (H_laws_toRepo : Has G c_laws_toRepo) (H_spec_SyncFind : Has G c_spec_SyncFind) (H_impl_SyncFind : Has G c_impl_SyncFind) (H_laws_eqRepo : Has G c_laws_eqRepo) (a0 : Repo) (a1 : Repo) (a2 : Int) (r : Bool) (h : gf_laws_FnExactSyncFind a0 a1 a2 = some r) : Does G if_laws_FnExactSyncFind ks_laws_FnExactSyncFind (c_laws_FnExactSyncFind.args (a0, a1, a2)) [] (c_laws_FnExactSyncFind.ans r) := by
  refine does_pn (L := [(0, .agg [.ro (List.map (eCommit false) a0.commits), .ro (List.map eHead a0.heads)]), (1, .agg [.ro (List.map (eCommit false) a1.commits), .ro (List.map eHead a1.heads)]), (2, .v (.int .i64 a2))]) (fun bs => pin) fun bs t o => ?_
  show vwp _ ib_laws_FnExactSyncFind _ _
  unfold ib_laws_FnExactSyncFind
  unfold gf_laws_FnExactSyncFind at h
  obtain ⟨x3, h4, h⟩ := bnd h
  refine go ?_; intros
  refine c_call (c := c_laws_szRepo) (a0, 1048576) H_laws_szRepo h4 fun ch => ?_
  refine go ?_; intros
  refine w_cond rfl (fun c => ?_) (fun c => ?_)
  · replace h := itt h c
    try rw [c]
    refine go ?_; intros
    cases h
    exact r_end
  replace h := itf h c
  try rw [c]
  obtain ⟨x5, h6, h⟩ := bnd h
  refine go ?_; intros
  refine c_call (c := c_laws_szRepo) (a1, x3) H_laws_szRepo h6 fun ch => ?_
  refine go ?_; intros
  refine w_cond rfl (fun c => ?_) (fun c => ?_)
  · replace h := itt h c
    try rw [c]
    refine go ?_; intros
    cases h
    exact r_end
  replace h := itf h c
  try rw [c]
  obtain ⟨x7, h8, h⟩ := bnd h
  refine go ?_; intros
  refine c_call (c := c_laws_toRepo) (a0) H_laws_toRepo h8 fun ch => ?_
  obtain ⟨x13, h14, h⟩ := bnd h
  refine go ?_; intros
  refine c_call (c := c_laws_toRepo) (a1) H_laws_toRepo h14 fun ch => ?_
  obtain ⟨x19, h20, h⟩ := bnd h
  refine go ?_; intros
  refine c_call (c := c_spec_SyncFind) (x7, x13, a2) H_spec_SyncFind h20 fun ch => ?_
  obtain ⟨q21, h63, h⟩ := bnd h
  refine go ?_; intros
  refine w_cut (fun t o => ∃ b29 b30 b32 c33 b35 c36 b37, Pin t (ovr [(2, .v (.int .i64 a2)), (3, .ptr 24 b29 466 0 0), (4, .ptr 32 b30 466 0 0), (8, .v (.int .i64 x19)), (9, .ptr 72 b37 210 0 0)] t) ∧ PinH o (ovh [(24, ⟨b29, 1, 466, true, [[.sl false 3 (List.map (eCommit false) a0.commits), .sl false 2 (List.map eHead a0.heads)]]⟩), (32, ⟨b30, 1, 466, true, [[.sl false 3 (List.map (eCommit false) a1.commits), .sl false 2 (List.map eHead a1.heads)]]⟩), (1001152, ent b32 c33 115 (List.map (eCommit true) q21.1)), (1001153, ent b35 c36 130 (List.map eHead q21.2)), (72, ⟨b37, 1, 210, true, [[.al 1001152 b32 c33 0 q21.1.length 115, .al 1001153 b35 c36 0 q21.2.length 130]]⟩)] o)) ?_ ?_
  · obtain ⟨x22, h23, h63⟩ := bnd h63
    refine go ?_; intros
    refine c_call (c := c_laws_toRepo) (a0) H_laws_toRepo h23 fun ch => ?_
    refine go ?_; intros
    cases h63
    exact k_cn ⟨_, _, _, _, _, _, _, pin, pinh⟩
  rintro t o ⟨b29, b30, b32, c33, b35, c36, b37, q1, q2⟩
  refine pinned q1 q2 ?_
  obtain ⟨x38, h39, h⟩ := bnd h
  refine go ?_; intros
  refine c_call (c := c_laws_toRepo) (a1) H_laws_toRepo h39 fun ch => ?_
  obtain ⟨x45, h46, h⟩ := bnd h
  refine go ?_; intros
  refine c_call (c := c_impl_SyncFind) ((⟨q21.1, q21.2⟩ : Repo), x38, a2) H_impl_SyncFind h46 fun ch => ?_
  refine go ?_; intros
  refine w_cond rfl (fun c => ?_) (fun c => ?_)
  · replace h := itt h c
    try rw [c]
    refine go ?_; intros
    cases h
    exact r_end
  replace h := itf h c
  try rw [c]
  obtain ⟨x47, h48, h⟩ := bnd h
  refine go ?_; intros
  refine c_call (c := c_laws_toRepo) (a0) H_laws_toRepo h48 fun ch => ?_
  obtain ⟨x53, h54, h⟩ := bnd h
  refine go ?_; intros
  refine c_call (c := c_laws_eqRepo) ((⟨q21.1, q21.2⟩ : Repo), x47) H_laws_eqRepo h54 fun ch => ?_
  refine go ?_; intros
  refine w_cond rfl (fun c => ?_) (fun c => ?_)
  · replace h := itt h c
    try rw [c]
    refine go ?_; intros
    cases h
    exact r_end
  replace h := itf h c
  try rw [c]
  obtain ⟨x55, h56, h⟩ := bnd h
  refine go ?_; intros
  refine c_call (c := c_laws_toRepo) (a1) H_laws_toRepo h56 fun ch => ?_
  obtain ⟨x61, h62, h⟩ := bnd h
  refine go ?_; intros
  refine c_call (c := c_laws_eqRepo) (x38, x55) H_laws_eqRepo h62 fun ch => ?_
  refine go ?_; intros
  refine w_cond rfl (fun c => ?_) (fun c => ?_)
  · replace h := itt h c
    try rw [c]
    refine go ?_; intros
    cases h
    exact r_end
  replace h := itf h c
  try rw [c]
  refine go ?_; intros
  cases h
  exact r_end
theorem d_laws_FnExactJoinBase {G : Gam} (H_laws_szRepo : Has G c_laws_szRepo) (H_laws_toRepo : Has G c_laws_toRepo) (H_spec_JoinBase : Has G c_spec_JoinBase) (H_impl_JoinBase : Has G c_impl_JoinBase) (H_laws_eqRepo : Has G c_laws_eqRepo) (a0 : Repo) (a1 : Int) (a2 : Int) (r : Bool) (h : gf_laws_FnExactJoinBase a0 a1 a2 = some r) : Does G if_laws_FnExactJoinBase ks_laws_FnExactJoinBase (c_laws_FnExactJoinBase.args (a0, a1, a2)) [] (c_laws_FnExactJoinBase.ans r) := by
  refine does_pn (L := [(0, .agg [.ro (List.map (eCommit false) a0.commits), .ro (List.map eHead a0.heads)]), (1, .v (.int .i64 a1)), (2, .v (.int .i64 a2))]) (fun bs => pin) fun bs t o => ?_
  show vwp _ ib_laws_FnExactJoinBase _ _
  unfold ib_laws_FnExactJoinBase
  unfold gf_laws_FnExactJoinBase at h
  obtain ⟨x2, h3, h⟩ := bnd h
  refine go ?_; intros
  refine c_call (c := c_laws_szRepo) (a0, 1048576) H_laws_szRepo h3 fun ch => ?_
  refine go ?_; intros
  refine w_cond rfl (fun c => ?_) (fun c => ?_)
  · replace h := itt h c
    try rw [c]
    refine go ?_; intros
    cases h
    exact r_end
  replace h := itf h c
  try rw [c]
  obtain ⟨x4, h5, h⟩ := bnd h
  refine go ?_; intros
  refine c_call (c := c_laws_toRepo) (a0) H_laws_toRepo h5 fun ch => ?_
  obtain ⟨x10, h11, h⟩ := bnd h
  refine go ?_; intros
  refine c_call (c := c_spec_JoinBase) (x4, a1, a2) H_spec_JoinBase h11 fun ch => ?_
  obtain ⟨x12, h13, h⟩ := bnd h
  refine go ?_; intros
  refine c_call (c := c_laws_toRepo) (a0) H_laws_toRepo h13 fun ch => ?_
  obtain ⟨x19, h20, h⟩ := bnd h
  refine go ?_; intros
  refine c_call (c := c_impl_JoinBase) (x12, a1, a2) H_impl_JoinBase h20 fun ch => ?_
  refine go ?_; intros
  refine w_cond rfl (fun c => ?_) (fun c => ?_)
  · replace h := itt h c
    try rw [c]
    refine go ?_; intros
    cases h
    exact r_end
  replace h := itf h c
  try rw [c]
  obtain ⟨x21, h22, h⟩ := bnd h
  refine go ?_; intros
  refine c_call (c := c_laws_toRepo) (a0) H_laws_toRepo h22 fun ch => ?_
  obtain ⟨x27, h28, h⟩ := bnd h
  refine go ?_; intros
  refine c_call (c := c_laws_eqRepo) (x12, x21) H_laws_eqRepo h28 fun ch => ?_
  refine go ?_; intros
  refine w_cond rfl (fun c => ?_) (fun c => ?_)
  · replace h := itt h c
    try rw [c]
    refine go ?_; intros
    cases h
    exact r_end
  replace h := itf h c
  try rw [c]
  refine go ?_; intros
  cases h
  exact r_end
end Go.Proofs.AM
