/- A part of the proofs of this seat's statements (KCF14): lemmas on an abstract machine for the program's functions. Conditions: none. -/
import Derived.Test.YtbildbphkmdemaaKCD
set_option linter.unusedVariables false
set_option linter.unusedSimpArgs false
set_option maxRecDepth 100000
set_option maxHeartbeats 4000000
namespace Go.Proofs.AM
attribute [local irreducible] vwp vstps vstpLs vstp vdo vret kseq kblk kloop kend kcut kloop2 frzV renV shutK pfzV trnV unrV
theorem d_spec_l7Bent {G : Gam} (H_spec_l7Repo : Has G c_spec_l7Repo) (H_spec_l12Rd_pick : Has G c_spec_l12Rd_pick) (H_spec_l12Rd_num : Has G c_spec_l12Rd_num) (H_spec_l3Bent : Has G c_spec_l3Bent) (a0 : Rd) (g0 : Option Addr) (g1 : Nat) (r : (Repo × Int)) (h : gf_spec_l7Bent a0 = some r) : Does G if_spec_l7Bent ks_spec_l7Bent (c_spec_l7Bent.args (a0, g0, g1)) (c_spec_l7Bent.ins (a0, g0, g1)) (c_spec_l7Bent.ans (a0, g0, g1) r) := by
  refine does_pg (L := fun bs => [(0, .ptr 0 (bs 0).1 290 0 0)]) (H := fun bs => [(0, ⟨(bs 0).1, (bs 0).2, 290, true, [[.rw g0 g1 (List.map eU8 a0.b), .v (.int .i64 a0.p)]]⟩)]) (fun bs => pin) (fun bs => pinh) fun bs t o => ?_
  show vwp _ ib_spec_l7Bent _ _
  unfold ib_spec_l7Bent
  refine w_ir ?_
  unfold gf_spec_l7Bent at h
  obtain ⟨x2, h3, h⟩ := bnd h
  refine go ?_; intros
  refine c_callg (c := c_spec_l7Repo) (a0, g0, g1) H_spec_l7Repo h3 fun ch => ?_
  obtain ⟨x9, h10, h⟩ := bnd h
  refine go ?_; intros
  refine c_callg (c := c_spec_l12Rd_pick) ((⟨a0.b, x2.2⟩ : Rd), (x2.1.commits.length : Int), g0, g1) H_spec_l12Rd_pick h10 fun ch => ?_
  obtain ⟨x11, h12, h⟩ := bnd h
  refine go ?_; intros
  refine c_callg (c := c_spec_l12Rd_pick) ((⟨a0.b, x9.2⟩ : Rd), 48, g0, g1) H_spec_l12Rd_pick h12 fun ch => ?_
  obtain ⟨q13, h53, h⟩ := bnd h
  refine go ?_; intros
  refine w_cut (fun t o => ∃ b14 c15 b16 c17 b18 b19 c20 b21 c22 b23, Pin t (ovr [(0, .ptr 0 (bs 0).1 290 0 0), (2, .ptr 16 b18 210 0 0), (3, .ptr 24 b23 210 0 0), (4, .v (.int .i64 x9.1)), (13, .v (.int .i64 x11.1)), (14, .v (.bool (x11.1 == 0)))] t) ∧ PinH o (ovh [(0, ⟨(bs 0).1, (bs 0).2, 290, true, [[.rw g0 g1 (List.map eU8 a0.b), .v (.int .i64 x11.2)]]⟩), (1000256, ent b14 c15 115 (List.map (eCommit true) [])), (1000257, ent b16 c17 130 (List.map eHead [])), (16, ⟨b18, 1, 210, true, [[.al 1000256 b14 c15 0 ([] : List Commit).length 115, .al 1000257 b16 c17 0 ([] : List Head).length 130]]⟩), (1000384, ent b19 c20 115 (List.map eCommitX x2.1.commits)), (1000385, ent b21 c22 130 (List.map eHead x2.1.heads)), (24, ⟨b23, 1, 210, true, [[.al 1000384 b19 c20 0 x2.1.commits.length 115, .al 1000385 b21 c22 0 x2.1.heads.length 130]]⟩)] o)) ?_ ?_
  · refine go ?_; intros
    cases h53
    exact k_cn ⟨_, _, _, _, _, _, _, _, _, _, pin, pinh⟩
  rintro t o ⟨b14, c15, b16, c17, b18, b19, c20, b21, c22, b23, pq1, pq2⟩
  refine pinned pq1 pq2 ?_
  refine go ?_; intros
  refine w_cond rfl (fun c => ?_) (fun c => ?_)
  · replace h := itt h c
    try rw [c]
    obtain ⟨x25, h26, h⟩ := bnd h
    refine go ?_; intros
    refine c_callg (c := c_spec_l12Rd_num) ((⟨a0.b, x11.2⟩ : Rd), ([(-1), (x2.1.commits.length : Int)] : (List Int)), g0, g1) H_spec_l12Rd_num h26 fun ch => ?_
    obtain ⟨x27, h28, h⟩ := bnd h
    refine go ?_; intros
    refine r_ire (xs := x2.1.heads) rfl rfl h28 rfl ?_
    refine go ?_; intros
    refine c_ste (f := eHead) x2.1.heads (⟨x27.name, x25.1⟩ : Head) (idx_get h28).2 ?_
    refine go ?_; intros
    cases h
    exact r_endg
  replace h := itf h c
  try rw [c]
  refine go ?_; intros
  refine w_cond rfl (fun c => ?_) (fun c => ?_)
  · replace h := itt h c
    try rw [c]
    obtain ⟨x29, h30, h⟩ := bnd h
    refine go ?_; intros
    refine r_ire (xs := x2.1.commits) rfl rfl h30 rfl ?_
    refine go ?_; intros
    refine r_lopg (f := eCommitX) (g := eInt) (xs := x2.1.commits) (x := x29) (ys := x29.up) (idx_get h30).2 rfl rfl rfl fun b31 c32 => ?_
    obtain ⟨h36, h⟩ := gd h
    refine go ?_; intros
    refine r_app (f := eInt) (xs := x29.up) (ys := ([x9.1] : (List Int))) rfl (src_mv rfl rfl (by first | rfl | simp)) rfl rfl (by first | rfl | simp) h36 fun b34 c35 => ?_
    refine go ?_; intros
    refine r_ire (xs := x2.1.commits) rfl rfl h30 rfl ?_
    refine go ?_; intros
    refine c_stc (f := eCommitX) x2.1.commits (⟨(x29.up ++ ([x9.1] : (List Int))), x29.sheet, x29.note⟩ : Commit) (idx_get h30).2 ?_
    refine go ?_; intros
    cases h
    exact r_endg
  replace h := itf h c
  try rw [c]
  refine go ?_; intros
  refine w_cond rfl (fun c => ?_) (fun c => ?_)
  · replace h := itt h c
    try rw [c]
    refine go ?_; intros
    refine r_frz ?_
    obtain ⟨x37, h38, h⟩ := bnd h
    refine go ?_; intros
    refine c_callg (c := c_spec_l3Bent) ((⟨a0.b, x11.2⟩ : Rd), g0, g1) H_spec_l3Bent h38 fun ch => ?_
    refine go ?_; intros
    refine c_fz ?_
    obtain ⟨x41, h42, h⟩ := bnd h
    refine go ?_; intros
    refine r_ire (xs := x2.1.commits) rfl rfl h42 rfl ?_
    refine go ?_; intros
    refine c_ste (f := eCommitX) x2.1.commits (⟨x41.up, x37.1, x41.note⟩ : Commit) (idx_get h42).2 ?_
    refine go ?_; intros
    cases h
    exact r_endg
  replace h := itf h c
  try rw [c]
  refine go ?_; intros
  refine w_cond rfl (fun c => ?_) (fun c => ?_)
  · replace h := itt h c
    try rw [c]
    obtain ⟨x43, h44, h⟩ := bnd h
    refine go ?_; intros
    refine r_ire (xs := x2.1.commits) rfl rfl h44 rfl ?_
    refine go ?_; intros
    refine c_ste (f := eCommitX) x2.1.commits (⟨x43.up, x43.sheet, (⟨#[]⟩ : Str)⟩ : Commit) (idx_get h44).2 ?_
    refine go ?_; intros
    cases h
    exact r_endg
  replace h := itf h c
  try rw [c]
  refine go ?_; intros
  refine w_cond rfl (fun c => ?_) (fun c => ?_)
  · replace h := itt h c
    try rw [c]
    obtain ⟨x45, h46, h⟩ := bnd h
    refine go ?_; intros
    refine r_ire (xs := x2.1.heads) rfl rfl h46 rfl ?_
    refine go ?_; intros
    refine r_lde (f := eHead) (xs := x2.1.heads) (x := x45) rfl rfl (idx_get h46).2 rfl rfl rfl ?_
    obtain ⟨h50, h⟩ := gd h
    refine go ?_; intros
    refine r_app (f := eHead) (xs := x2.1.heads) (ys := ([x45] : (List Head))) rfl (src_mv rfl rfl (by first | rfl | simp)) rfl rfl (by first | rfl | simp) h50 fun b48 c49 => ?_
    refine go ?_; intros
    cases h
    exact r_endg
  replace h := itf h c
  try rw [c]
  refine go ?_; intros
  refine w_cond rfl (fun c => ?_) (fun c => ?_)
  · replace h := itt h c
    try rw [c]
    obtain ⟨x51, h52, h⟩ := bnd h
    refine go ?_; intros
    refine r_ire (xs := x2.1.commits) rfl rfl h52 rfl ?_
    refine go ?_; intros
    refine c_ste (f := eCommitX) x2.1.commits (⟨[], x51.sheet, x51.note⟩ : Commit) (idx_get h52).2 ?_
    refine go ?_; intros
    cases h
    exact r_endg
  replace h := itf h c
  try rw [c]
  refine go ?_; intros
  cases h
  exact r_endg
theorem d_slices_Delete_impl_Head_impl_Head {G : Gam} (a0 : (List Head)) (a1 : Int) (a2 : Int) (r : (List Head)) (h : gf_slices_Delete_impl_Head_impl_Head a0 a1 a2 = some r) : Does G if_slices_Delete_impl_Head_impl_Head ks_slices_Delete_impl_Head_impl_Head (c_slices_Delete_impl_Head_impl_Head.args (a0, a1, a2)) (c_slices_Delete_impl_Head_impl_Head.ins (a0, a1, a2)) (c_slices_Delete_impl_Head_impl_Head.ans (a0, a1, a2) r) := by
  refine does_pg (L := fun bs => [(0, .ref 0 (bs 0).1 (bs 0).2 0 a0.length 130), (1, .v (.int .i64 a1)), (2, .v (.int .i64 a2))]) (H := fun bs => [(0, ent (bs 0).1 (bs 0).2 130 (List.map eHead a0))]) (fun bs => pin) (fun bs => pinh) fun bs t o => ?_
  show vwp _ ib_slices_Delete_impl_Head_impl_Head _ _
  unfold ib_slices_Delete_impl_Head_impl_Head
  refine w_ir ?_
  unfold gf_slices_Delete_impl_Head_impl_Head at h
  obtain ⟨q, hs, h⟩ := bnd h
  obtain ⟨s0, s1, s2⟩ := slc_le hs
  refine go ?_; intros
  refine r_sl3 rfl rfl rfl rfl rfl hs rfl ?_
  refine go ?_; intros
  refine w_cond rfl (fun c => ?_) (fun c => ?_)
  · replace h := itt h c
    try rw [c]
    refine go ?_; intros
    cases h
    exact r_endg
  replace h := itf h c
  try rw [c]
  refine go ?_; intros
  refine r_slv0 (j := a1) rfl rfl rfl rfl s0 (by omega) ?_
  refine go ?_; intros
  refine r_slv1 (j := a2) rfl rfl rfl rfl (by omega) s2 ?_
  refine go ?_; intros
  refine r_ain (f := eHead) (xs := a0) (ys := a0.drop a2.toNat) (i := a1.toNat) (j := a2.toNat) (m := a0.length - a2.toNat) rfl rfl rfl (del_ys a0) (by omega) (by omega) (fun _ => rfl) ?_
  refine go ?_; intros
  refine r_slx2 (i := ((a1.toNat + (a0.length - a2.toNat) : Nat) : Int)) (j := (a0.length : Int)) (rows := List.map eHead (a0.take a1.toNat ++ a0.drop a2.toNat ++ a0.drop (a1.toNat + (a0.length - a2.toNat)))) rfl rfl rfl rfl rfl (by omega) (by omega) (by simp; omega) ?_
  refine go ?_; intros
  refine r_clr (f := eHead) (xs := a0.take a1.toNat ++ a0.drop a2.toNat ++ a0.drop (a1.toNat + (a0.length - a2.toNat))) (z0 := (⟨⟨#[]⟩, 0⟩ : Head)) rfl rfl rfl (by simp; omega) (fun _ => rfl) ?_
  refine go ?_; intros
  refine r_trn ?_
  refine go ?_; intros
  refine r_trv (f := eHead) (ys := a0.take a1.toNat ++ a0.drop a2.toNat) (xs := del_xs a0 a1 a2 (⟨⟨#[]⟩, 0⟩ : Head)) rfl rfl (del_eq s0 s1 s2) (del_le s0 s1 s2) ?_
  refine go ?_; intros
  cases h
  rw [del_len s0 s1 s2]
  exact r_endg
theorem d_impl_RepoDrop {G : Gam} (H_impl_RepoOk : Has G c_impl_RepoOk) (H_impl_cloneRepo : Has G c_impl_cloneRepo) (H_impl_Repo_head : Has G c_impl_Repo_head) (H_slices_Delete_impl_Head_impl_Head : Has G c_slices_Delete_impl_Head_impl_Head) (a0 : Repo) (a1 : Str) (r : (Repo × Int)) (h : gf_impl_RepoDrop a0 a1 = some r) : Does G if_impl_RepoDrop ks_impl_RepoDrop (c_impl_RepoDrop.args (a0, a1)) [] (c_impl_RepoDrop.ans (a0, a1) r) := by
  refine does_pn (L := [(0, .agg [.ro (List.map (eCommit false) a0.commits), .ro (List.map eHead a0.heads)]), (1, .v (.string a1))]) (fun bs => pin) fun bs t o => ?_
  show vwp _ ib_impl_RepoDrop _ _
  unfold ib_impl_RepoDrop
  refine w_ir ?_
  unfold gf_impl_RepoDrop at h
  obtain ⟨x3, h4, h⟩ := bnd h
  refine go ?_; intros
  refine c_call (c := c_impl_RepoOk) (a0) H_impl_RepoOk h4 fun ch => ?_
  refine go ?_; intros
  refine w_cond rfl (fun c => ?_) (fun c => ?_)
  · replace h := itt h c
    try rw [c]
    refine go ?_; intros
    cases h
    exact r_end
  replace h := itf h c
  try rw [c]
  obtain ⟨q5, h36, h⟩ := bnd h
  refine go ?_; intros
  refine w_cut (fun t o => ∃ b13 b14 c15 b16 c17 b18 b20 c21 b23 c24 b25, Pin t (ovr [(1, .v (.string a1)), (2, .ptr 16 b13 210 0 0), (4, .ptr 32 b18 210 0 0), (6, .ptr 48 b25 210 0 0)] t) ∧ PinH o (ovh [(16, ⟨b13, 1, 210, true, [[.sl false 3 (List.map (eCommit false) a0.commits), .sl false 2 (List.map eHead a0.heads)]]⟩), (1000512, ent b14 c15 115 (List.map (eCommit true) [])), (1000513, ent b16 c17 130 (List.map eHead [])), (32, ⟨b18, 1, 210, true, [[.al 1000512 b14 c15 0 ([] : List Commit).length 115, .al 1000513 b16 c17 0 ([] : List Head).length 130]]⟩), (1000768, ent b20 c21 115 (List.map (eCommit true) q5.1)), (1000769, ent b23 c24 130 (List.map eHead q5.2)), (48, ⟨b25, 1, 210, true, [[.al 1000768 b20 c21 0 q5.1.length 115, .al 1000769 b23 c24 0 q5.2.length 130]]⟩)] o)) ?_ ?_
  · obtain ⟨x6, h7, h36⟩ := bnd h36
    refine go ?_; intros
    refine c_call (c := c_impl_cloneRepo) (a0) H_impl_cloneRepo h7 fun ch => ?_
    refine go ?_; intros
    cases h36
    exact k_cn ⟨_, _, _, _, _, _, _, _, _, _, _, pin, pinh⟩
  rintro t o ⟨b13, b14, c15, b16, c17, b18, b20, c21, b23, c24, b25, pq1, pq2⟩
  refine pinned pq1 pq2 ?_
  obtain ⟨x26, h27, h⟩ := bnd h
  refine go ?_; intros
  refine c_call (c := c_impl_Repo_head) (a0, a1) H_impl_Repo_head h27 fun ch => ?_
  refine go ?_; intros
  refine w_cond rfl (fun c => ?_) (fun c => ?_)
  · replace h := itt h c
    try rw [c]
    refine go ?_; intros
    cases h
    exact r_end
  replace h := itf h c
  try rw [c]
  refine go ?_; intros
  refine w_cond rfl (fun c => ?_) (fun c => ?_)
  · replace h := itt h (by first | exact c | (have c2 := c; simp only [List.length_map] at c2; exact c2))
    try rw [c]
    refine go ?_; intros
    cases h
    exact r_end
  replace h := itf h (by first | exact c | (have c2 := c; simp only [List.length_map] at c2; exact c2))
  try rw [c]
  obtain ⟨x29, h30, h⟩ := bnd h
  refine go ?_; intros
  refine c_callg (c := c_slices_Delete_impl_Head_impl_Head) (q5.2, x26, (IntKind.i64.wrap (x26 + 1))) H_slices_Delete_impl_Head_impl_Head h30 fun ch => ?_
  obtain ⟨h35, h⟩ := gd h
  refine go ?_; intros
  refine r_app (f := eHead) (xs := ([] : (List Head))) (ys := x29) rfl (src_cp (f := eHead) rfl (by first | rfl | simp) (fun _ => rfl)) rfl rfl (by first | rfl | simp) h35 fun b33 c34 => ?_
  refine go ?_; intros
  cases h
  exact r_end
theorem d_impl_RepoAt {G : Gam} (H_impl_Repo_head : Has G c_impl_Repo_head) (H_impl_RepoOk : Has G c_impl_RepoOk) (a0 : Repo) (a1 : Str) (r : Int) (h : gf_impl_RepoAt a0 a1 = some r) : Does G if_impl_RepoAt ks_impl_RepoAt (c_impl_RepoAt.args (a0, a1)) [] (c_impl_RepoAt.ans (a0, a1) r) := by
  refine does_pn (L := [(0, .agg [.ro (List.map (eCommit false) a0.commits), .ro (List.map eHead a0.heads)]), (1, .v (.string a1))]) (fun bs => pin) fun bs t o => ?_
  show vwp _ ib_impl_RepoAt _ _
  unfold ib_impl_RepoAt
  refine w_ir ?_
  unfold gf_impl_RepoAt at h
  obtain ⟨x2, h3, h⟩ := bnd h
  refine go ?_; intros
  refine c_call (c := c_impl_Repo_head) (a0, a1) H_impl_Repo_head h3 fun ch => ?_
  obtain ⟨x4, h5, h⟩ := bnd h
  refine go ?_; intros
  refine c_call (c := c_impl_RepoOk) (a0) H_impl_RepoOk h5 fun ch => ?_
  refine go ?_; intros
  refine s_split rfl (fun c => ?_) (fun c => ?_)
  · replace h := itt h c
    rw [c]
    refine go ?_; intros
    cases h
    exact r_end
  replace h := itf h c
  rw [c]
  refine go ?_; intros
  refine w_cond rfl (fun c => ?_) (fun c => ?_)
  · replace h := itt h c
    try rw [c]
    refine go ?_; intros
    cases h
    exact r_end
  replace h := itf h c
  try rw [c]
  obtain ⟨x6, h7, h⟩ := bnd h
  refine go ?_; intros
  refine r_iro rfl rfl h7 rfl ?_
  refine go ?_; intros
  cases h
  exact r_end
theorem d_slices_Equal_impl_Head_impl_Head {G : Gam}  (a0 : (List Head)) (a1 : (List Head)) (r : Bool) (h : gf_slices_Equal_impl_Head_impl_Head a0 a1 = some r) : Does G if_slices_Equal_impl_Head_impl_Head ks_slices_Equal_impl_Head_impl_Head (c_slices_Equal_impl_Head_impl_Head.args (a0, a1)) [] (c_slices_Equal_impl_Head_impl_Head.ans (a0, a1) r) := by
  refine does_pn (L := [(0, .ro (List.map eHead a0)), (1, .ro (List.map eHead a1))]) (fun bs => pin) fun bs t o => ?_
  show vwp _ ib_slices_Equal_impl_Head_impl_Head _ _
  unfold ib_slices_Equal_impl_Head_impl_Head
  refine w_ir ?_
  unfold gf_slices_Equal_impl_Head_impl_Head at h
  refine go ?_; intros
  refine w_cond rfl (fun c => ?_) (fun c => ?_)
  · replace h := itt h (by first | exact c | (have c2 := c; simp only [List.length_map] at c2; exact c2))
    try rw [c]
    refine go ?_; intros
    cases h
    exact r_end
  replace h := itf h (by first | exact c | (have c2 := c; simp only [List.length_map] at c2; exact c2))
  try rw [c]
  obtain ⟨hf24, h⟩ := gd h
  obtain ⟨q14, h27, h⟩ := bnd h
  refine go ?_; intros
  refine w_last (fun t o => ∃ q14_, q14 = .inr q14_ ∧ Pin t (ovr [] t) ∧ PinH o (ovh [] o)) ?_ ?_
  · refine w_loop2 (fun n t o => ∃ l18 k16  , gl_slices_Equal_impl_Head_impl_Head_1 a1 l18 k16  = some q14 ∧ n = l18.length ∧ (a0).drop k16 = l18 ∧ Pin t (ovr [(0, .ro (List.map eHead a0)), (1, .ro (List.map eHead a1)), (12, .v (.int .i64 (a0.length : Int))), (13, .v (.int .i64 (k16 : Int)))] t) ∧ PinH o (ovh [] o)) _ ⟨_, _, h27, rfl, rfl, pin, pinh⟩ ?_
    rintro n t o ⟨l18, k16, h27, rfl, hd19, pq1, pq2⟩
    refine pinned pq1 pq2 ?_
    cases l18 with
    | nil =>
      have hge21 := drop_ge hd19
      rw [gl_slices_Equal_impl_Head_impl_Head_1] at h27
      refine go ?_; intros
      rw [hge21]
      refine go ?_; intros
      cases h27
      exact k_cn ⟨_, rfl, pin, pinh⟩
    | cons x17 l18 =>
      have hlt20 := drop_lt hd19
      have hx22 := drop_ix hd19
      have hw23 := drop_wr hd19 hf24
      rw [gl_slices_Equal_impl_Head_impl_Head_1] at h27
      refine go ?_; intros
      rw [hlt20]
      refine go ?_; intros
      refine r_iro rfl rfl hx22 rfl ?_
      obtain ⟨x25, h26, h27⟩ := bnd h27
      refine go ?_; intros
      refine r_iro rfl rfl h26 rfl ?_
      refine go ?_; intros
      refine w_cond rfl (fun c => ?_) (fun c => ?_)
      · replace h27 := itt h27 c
        try rw [c]
        refine go ?_; intros
        cases h27
        replace h : some _ = some _ := h
        cases h
        exact r_end
      replace h27 := itf h27 c
      try rw [c]
      refine go ?_; intros
      rw [hw23]
      exact k_ln2 _ (Nat.lt_succ_self _) ⟨_, _, h27, rfl, drop_next hd19, pin, pinh⟩
  rintro t o ⟨q14, rfl, pq1, pq2⟩
  refine pinnedQ pq1 pq2 ?_
  refine go ?_; intros
  cases h
  exact r_end
theorem d_slices_EqualFunc_impl_Commit_impl_Commit_impl_Commit_impl_Commit__impl_sameCommit {G : Gam} (H_impl_sameCommit : Has G c_impl_sameCommit) (a0 : (List Commit)) (a1 : (List Commit)) (r : Bool) (h : gf_slices_EqualFunc_impl_Commit_impl_Commit_impl_Commit_impl_Commit__impl_sameCommit a0 a1 = some r) : Does G if_slices_EqualFunc_impl_Commit_impl_Commit_impl_Commit_impl_Commit ks_slices_EqualFunc_impl_Commit_impl_Commit_impl_Commit_impl_Commit (c_slices_EqualFunc_impl_Commit_impl_Commit_impl_Commit_impl_Commit__impl_sameCommit.args (a0, a1)) [] (c_slices_EqualFunc_impl_Commit_impl_Commit_impl_Commit_impl_Commit__impl_sameCommit.ans (a0, a1) r) := by
  refine does_pn (L := [(0, .ro (List.map (eCommit false) a0)), (1, .ro (List.map (eCommit false) a1)), (2, .fn 330 [])]) (fun bs => pin) fun bs t o => ?_
  show vwp _ ib_slices_EqualFunc_impl_Commit_impl_Commit_impl_Commit_impl_Commit _ _
  unfold ib_slices_EqualFunc_impl_Commit_impl_Commit_impl_Commit_impl_Commit
  refine w_ir ?_
  unfold gf_slices_EqualFunc_impl_Commit_impl_Commit_impl_Commit_impl_Commit__impl_sameCommit at h
  refine go ?_; intros
  refine w_cond rfl (fun c => ?_) (fun c => ?_)
  · replace h := itt h (by first | exact c | (have c2 := c; simp only [List.length_map] at c2; exact c2))
    try rw [c]
    refine go ?_; intros
    cases h
    exact r_end
  replace h := itf h (by first | exact c | (have c2 := c; simp only [List.length_map] at c2; exact c2))
  try rw [c]
  obtain ⟨hf36, h⟩ := gd h
  obtain ⟨q26, h43, h⟩ := bnd h
  refine go ?_; intros
  refine w_last (fun t o => ∃ q26_, q26 = .inr q26_ ∧ Pin t (ovr [] t) ∧ PinH o (ovh [] o)) ?_ ?_
  · refine w_loop2 (fun n t o => ∃ l30 k28  , gl_slices_EqualFunc_impl_Commit_impl_Commit_impl_Commit_impl_Commit__impl_sameCommit_1 a1 l30 k28  = some q26 ∧ n = l30.length ∧ (a0).drop k28 = l30 ∧ Pin t (ovr [(1, .ro (List.map (eCommit false) a1)), (2, .fn 330 []), (15, .ro (List.map (eCommit false) a0)), (16, .v (.int .i64 (a0.length : Int))), (17, .v (.int .i64 (k28 : Int)))] t) ∧ PinH o (ovh [] o)) _ ⟨_, _, h43, rfl, rfl, pin, pinh⟩ ?_
    rintro n t o ⟨l30, k28, h43, rfl, hd31, pq1, pq2⟩
    refine pinned pq1 pq2 ?_
    cases l30 with
    | nil =>
      have hge33 := drop_ge hd31
      rw [gl_slices_EqualFunc_impl_Commit_impl_Commit_impl_Commit_impl_Commit__impl_sameCommit_1] at h43
      refine go ?_; intros
      rw [hge33]
      refine go ?_; intros
      cases h43
      exact k_cn ⟨_, rfl, pin, pinh⟩
    | cons x29 l30 =>
      have hlt32 := drop_lt hd31
      have hx34 := drop_ix hd31
      have hw35 := drop_wr hd31 hf36
      rw [gl_slices_EqualFunc_impl_Commit_impl_Commit_impl_Commit_impl_Commit__impl_sameCommit_1] at h43
      refine go ?_; intros
      rw [hlt32]
      refine go ?_; intros
      refine r_iro rfl rfl hx34 rfl ?_
      obtain ⟨x38, h39, h43⟩ := bnd h43
      refine go ?_; intros
      refine r_iro rfl rfl h39 rfl ?_
      obtain ⟨x41, h42, h43⟩ := bnd h43
      refine go ?_; intros
      refine c_calld (c := c_impl_sameCommit) (x29, x38) H_impl_sameCommit h42 fun ch => ?_
      refine go ?_; intros
      refine w_cond rfl (fun c => ?_) (fun c => ?_)
      · replace h43 := itt h43 c
        try rw [c]
        refine go ?_; intros
        cases h43
        replace h : some _ = some _ := h
        cases h
        exact r_end
      replace h43 := itf h43 c
      try rw [c]
      refine go ?_; intros
      rw [hw35]
      exact k_ln2 _ (Nat.lt_succ_self _) ⟨_, _, h43, rfl, drop_next hd31, pin, pinh⟩
  rintro t o ⟨q26, rfl, pq1, pq2⟩
  refine pinnedQ pq1 pq2 ?_
  refine go ?_; intros
  cases h
  exact r_end
theorem d_impl_RepoSame {G : Gam} (H_slices_EqualFunc_impl_Commit_impl_Commit_impl_Commit_impl_Commit__impl_sameCommit : Has G c_slices_EqualFunc_impl_Commit_impl_Commit_impl_Commit_impl_Commit__impl_sameCommit) (H_slices_Equal_impl_Head_impl_Head : Has G c_slices_Equal_impl_Head_impl_Head) (a0 : Repo) (a1 : Repo) (r : Bool) (h : gf_impl_RepoSame a0 a1 = some r) : Does G if_impl_RepoSame ks_impl_RepoSame (c_impl_RepoSame.args (a0, a1)) [] (c_impl_RepoSame.ans (a0, a1) r) := by
  refine does_pn (L := [(0, .agg [.ro (List.map (eCommit false) a0.commits), .ro (List.map eHead a0.heads)]), (1, .agg [.ro (List.map (eCommit false) a1.commits), .ro (List.map eHead a1.heads)])]) (fun bs => pin) fun bs t o => ?_
  show vwp _ ib_impl_RepoSame _ _
  unfold ib_impl_RepoSame
  refine w_ir ?_
  unfold gf_impl_RepoSame at h
  obtain ⟨x3, h4, h⟩ := bnd h
  refine go ?_; intros
  refine c_call (c := c_slices_EqualFunc_impl_Commit_impl_Commit_impl_Commit_impl_Commit__impl_sameCommit) (a0.commits, a1.commits) H_slices_EqualFunc_impl_Commit_impl_Commit_impl_Commit_impl_Commit__impl_sameCommit h4 fun ch => ?_
  refine go ?_; intros
  refine s_split rfl (fun c => ?_) (fun c => ?_)
  · replace h := itt h c
    rw [c]
    obtain ⟨x5, h6, h⟩ := bnd h
    refine go ?_; intros
    refine c_call (c := c_slices_Equal_impl_Head_impl_Head) (a0.heads, a1.heads) H_slices_Equal_impl_Head_impl_Head h6 fun ch => ?_
    refine go ?_; intros
    cases h
    exact r_end
  replace h := itf h c
  rw [c]
  refine go ?_; intros
  cases h
  exact r_end
theorem d_spec_DrawRepoAt {G : Gam} (H_spec_l12Open : Has G c_spec_l12Open) (H_spec_l7Bent : Has G c_spec_l7Bent) (H_spec_l12Rd_of : Has G c_spec_l12Rd_of) (a0 : (List UInt8)) (g0 : Option Addr) (g1 : Nat) (r : (Repo × Str)) (h : gf_spec_DrawRepoAt a0 = some r) : Does G if_spec_DrawRepoAt ks_spec_DrawRepoAt (c_spec_DrawRepoAt.args (a0, g0, g1)) [] (c_spec_DrawRepoAt.ans (a0, g0, g1) r) := by
  refine does_pn (L := [(0, .raw g0 g1 (List.map eU8 a0))]) (fun bs => pin) fun bs t o => ?_
  show vwp _ ib_spec_DrawRepoAt _ _
  unfold ib_spec_DrawRepoAt
  refine w_ir ?_
  unfold gf_spec_DrawRepoAt at h
  obtain ⟨x2, h3, h⟩ := bnd h
  refine go ?_; intros
  refine c_call (c := c_spec_l12Open) (a0, g0, g1) H_spec_l12Open h3 fun ch => ?_
  obtain ⟨x5, h6, h⟩ := bnd h
  refine go ?_; intros
  refine c_callg (c := c_spec_l7Bent) (x2, g0, g1) H_spec_l7Bent h6 fun ch => ?_
  obtain ⟨x13, h14, h⟩ := bnd h
  refine go ?_; intros
  refine c_callg (c := c_spec_l12Rd_of) ((⟨x2.b, x5.2⟩ : Rd), ([(⟨#[109, 97, 105, 110]⟩ : Str), (⟨#[97, 110, 110]⟩ : Str), (⟨#[98, 111, 98]⟩ : Str), (⟨#[99, 97, 116]⟩ : Str)] : (List Str)), g0, g1) H_spec_l12Rd_of h14 fun ch => ?_
  refine go ?_; intros
  cases h
  exact r_end
theorem d_spec_RepoAt {G : Gam} (H_spec_l7Head : Has G c_spec_l7Head) (H_spec_RepoOk : Has G c_spec_RepoOk) (a0 : Repo) (a1 : Str) (r : Int) (h : gf_spec_RepoAt a0 a1 = some r) : Does G if_spec_RepoAt ks_spec_RepoAt (c_spec_RepoAt.args (a0, a1)) [] (c_spec_RepoAt.ans (a0, a1) r) := by
  refine does_pn (L := [(0, .agg [.ro (List.map (eCommit false) a0.commits), .ro (List.map eHead a0.heads)]), (1, .v (.string a1))]) (fun bs => pin) fun bs t o => ?_
  show vwp _ ib_spec_RepoAt _ _
  unfold ib_spec_RepoAt
  refine w_ir ?_
  unfold gf_spec_RepoAt at h
  obtain ⟨x2, h3, h⟩ := bnd h
  refine go ?_; intros
  refine c_call (c := c_spec_l7Head) (a0, a1) H_spec_l7Head h3 fun ch => ?_
  obtain ⟨x4, h5, h⟩ := bnd h
  refine go ?_; intros
  refine c_call (c := c_spec_RepoOk) (a0) H_spec_RepoOk h5 fun ch => ?_
  refine go ?_; intros
  refine s_split rfl (fun c => ?_) (fun c => ?_)
  · replace h := itt h c
    rw [c]
    refine go ?_; intros
    cases h
    exact r_end
  replace h := itf h c
  rw [c]
  refine go ?_; intros
  refine w_cond rfl (fun c => ?_) (fun c => ?_)
  · replace h := itt h c
    try rw [c]
    refine go ?_; intros
    cases h
    exact r_end
  replace h := itf h c
  try rw [c]
  obtain ⟨x6, h7, h⟩ := bnd h
  refine go ?_; intros
  refine r_iro rfl rfl h7 rfl ?_
  refine go ?_; intros
  cases h
  exact r_end
theorem d_impl_RepoSweep {G : Gam} (H_impl_RepoOk : Has G c_impl_RepoOk) (H_impl_Repo_past : Has G c_impl_Repo_past) (H_impl_cloneCommit : Has G c_impl_cloneCommit) (a0 : Repo) (r : Repo) (h : gf_impl_RepoSweep a0 = some r) : Does G if_impl_RepoSweep ks_impl_RepoSweep (c_impl_RepoSweep.args (a0)) [] (c_impl_RepoSweep.ans (a0) r) := by
  refine does_pn (L := [(0, .agg [.ro (List.map (eCommit false) a0.commits), .ro (List.map eHead a0.heads)])]) (fun bs => pin) fun bs t o => ?_
  show vwp _ ib_impl_RepoSweep _ _
  unfold ib_impl_RepoSweep
  refine w_ir ?_
  unfold gf_impl_RepoSweep at h
  obtain ⟨x3, h4, h⟩ := bnd h
  refine go ?_; intros
  refine c_call (c := c_impl_RepoOk) (a0) H_impl_RepoOk h4 fun ch => ?_
  refine go ?_; intros
  refine w_cond rfl (fun c => ?_) (fun c => ?_)
  · replace h := itt h c
    try rw [c]
    refine go ?_; intros
    cases h
    exact r_end
  replace h := itf h c
  try rw [c]
  obtain ⟨h7, h⟩ := gd h
  refine go ?_; intros
  refine r_mks (f := eBool) (x := false) rfl rfl (band1 h7) (band2 h7) rfl fun b5 => ?_
  obtain ⟨hf267, h⟩ := gd h
  obtain ⟨q248, h1005, h⟩ := bnd h
  refine go ?_; intros
  refine w_last (fun t o => ∃ b340 b341 c342 b343 c344 b345 b347 c348, Pin t (ovr [(1, .ptr 8 b340 210 0 0), (2, .ptr 16 b345 210 0 0), (3, .ref 184 b347 c348 0 q248.length 33)] t) ∧ PinH o (ovh [(8, ⟨b340, 1, 210, true, [[.sl false 3 (List.map (eCommit false) a0.commits), .sl false 2 (List.map eHead a0.heads)]]⟩), (1000256, ent b341 c342 115 (List.map (eCommit true) [])), (1000257, ent b343 c344 130 (List.map eHead [])), (16, ⟨b345, 1, 210, true, [[.al 1000256 b341 c342 0 ([] : List Commit).length 115, .al 1000257 b343 c344 0 ([] : List Head).length 130]]⟩), (184, ent b347 c348 33 (List.map eBool q248))] o)) ?_ ?_
  · refine w_loop2 (fun n t o => ∃ l261 k259 v256 b250 b251 c252 b253 c254 b255 b257 c258, gl_impl_RepoSweep_4 a0 l261 k259 v256 = some q248 ∧ n = l261.length ∧ (a0.heads).drop k259 = l261 ∧ Pin t (ovr [(1, .ptr 8 b250 210 0 0), (2, .ptr 16 b255 210 0 0), (3, .ref 184 b257 c258 0 v256.length 33), (25, .ro (List.map eHead a0.heads)), (26, .v (.int .i64 (a0.heads.length : Int))), (27, .v (.int .i64 (k259 : Int)))] t) ∧ PinH o (ovh [(8, ⟨b250, 1, 210, true, [[.sl false 3 (List.map (eCommit false) a0.commits), .sl false 2 (List.map eHead a0.heads)]]⟩), (1000256, ent b251 c252 115 (List.map (eCommit true) [])), (1000257, ent b253 c254 130 (List.map eHead [])), (16, ⟨b255, 1, 210, true, [[.al 1000256 b251 c252 0 ([] : List Commit).length 115, .al 1000257 b253 c254 0 ([] : List Head).length 130]]⟩), (184, ent b257 c258 33 (List.map eBool v256))] o)) _ ⟨_, _, _, _, _, _, _, _, _, _, _, h1005, rfl, rfl, pin, pinh⟩ ?_
    rintro n t o ⟨l261, k259, v256, b250, b251, c252, b253, c254, b255, b257, c258, h1005, rfl, hd262, pq1, pq2⟩
    refine pinned pq1 pq2 ?_
    cases l261 with
    | nil =>
      have hge264 := drop_ge hd262
      rw [gl_impl_RepoSweep_4] at h1005
      refine go ?_; intros
      rw [hge264]
      refine go ?_; intros
      cases h1005
      exact k_cn ⟨_, _, _, _, _, _, _, _, pin, pinh⟩
    | cons x260 l261 =>
      have hlt263 := drop_lt hd262
      have hx265 := drop_ix hd262
      have hw266 := drop_wr hd262 hf267
      rw [gl_impl_RepoSweep_4] at h1005
      refine go ?_; intros
      rw [hlt263]
      refine go ?_; intros
      refine r_iro rfl rfl hx265 rfl ?_
      obtain ⟨x269, h270, h1005⟩ := bnd h1005
      refine go ?_; intros
      refine c_call (c := c_impl_Repo_past) (a0, x260.at_) H_impl_Repo_past h270 fun ch => ?_
      obtain ⟨hf328, h1005⟩ := gd h1005
      obtain ⟨q307, h1006, h1005⟩ := bnd h1005
      refine go ?_; intros
      refine w_last (fun t o => ∃ b331 b332 c333 b334 c335 b336 b338 c339, Pin t (ovr [(1, .ptr 8 b331 210 0 0), (2, .ptr 16 b336 210 0 0), (3, .ref 184 b338 c339 0 q307.length 33), (25, .ro (List.map eHead a0.heads)), (26, .v (.int .i64 (a0.heads.length : Int))), (27, .v (.int .i64 (k259 : Int)))] t) ∧ PinH o (ovh [(8, ⟨b331, 1, 210, true, [[.sl false 3 (List.map (eCommit false) a0.commits), .sl false 2 (List.map eHead a0.heads)]]⟩), (1000256, ent b332 c333 115 (List.map (eCommit true) [])), (1000257, ent b334 c335 130 (List.map eHead [])), (16, ⟨b336, 1, 210, true, [[.al 1000256 b332 c333 0 ([] : List Commit).length 115, .al 1000257 b334 c335 0 ([] : List Head).length 130]]⟩), (184, ent b338 c339 33 (List.map eBool q307))] o)) ?_ ?_
      · refine w_loop2 (fun n t o => ∃ l322 k320 v315 b309 b310 c311 b312 c313 b314 b316 c317 b318 c319, gl_impl_RepoSweep_5 l322 k320 v315 = some q307 ∧ n = l322.length ∧ (x269).drop k320 = l322 ∧ Pin t (ovr [(1, .ptr 8 b309 210 0 0), (2, .ptr 16 b314 210 0 0), (3, .ref 184 b316 c317 0 v315.length 33), (25, .ro (List.map eHead a0.heads)), (26, .v (.int .i64 (a0.heads.length : Int))), (27, .v (.int .i64 (k259 : Int))), (34, .ref 272 b318 c319 0 x269.length 33), (35, .v (.int .i64 (x269.length : Int))), (36, .v (.int .i64 (k320 : Int)))] t) ∧ PinH o (ovh [(8, ⟨b309, 1, 210, true, [[.sl false 3 (List.map (eCommit false) a0.commits), .sl false 2 (List.map eHead a0.heads)]]⟩), (1000256, ent b310 c311 115 (List.map (eCommit true) [])), (1000257, ent b312 c313 130 (List.map eHead [])), (16, ⟨b314, 1, 210, true, [[.al 1000256 b310 c311 0 ([] : List Commit).length 115, .al 1000257 b312 c313 0 ([] : List Head).length 130]]⟩), (184, ent b316 c317 33 (List.map eBool v315)), (272, ent b318 c319 33 (List.map eBool x269))] o)) _ ⟨_, _, _, _, _, _, _, _, _, _, _, _, _, h1006, rfl, rfl, pin, pinh⟩ ?_
        rintro n t o ⟨l322, k320, v315, b309, b310, c311, b312, c313, b314, b316, c317, b318, c319, h1006, rfl, hd323, pq1, pq2⟩
        refine pinned pq1 pq2 ?_
        cases l322 with
        | nil =>
          have hge325 := drop_ge hd323
          rw [gl_impl_RepoSweep_5] at h1006
          refine go ?_; intros
          rw [hge325]
          refine go ?_; intros
          cases h1006
          exact k_cn ⟨_, _, _, _, _, _, _, _, pin, pinh⟩
        | cons x321 l322 =>
          have hlt324 := drop_lt hd323
          have hx326 := drop_ix hd323
          have hw327 := drop_wr hd323 hf328
          rw [gl_impl_RepoSweep_5] at h1006
          refine go ?_; intros
          rw [hlt324]
          refine go ?_; intros
          refine r_ire (xs := x269) rfl rfl hx326 rfl ?_
          refine go ?_; intros
          refine r_lde (f := eBool) (xs := x269) (x := x321) rfl rfl (idx_get hx326).2 rfl rfl rfl ?_
          obtain ⟨x329, h330, h1006⟩ := bnd h1006
          refine go ?_; intros
          refine r_ire (xs := v315) rfl rfl h330 rfl ?_
          refine go ?_; intros
          refine r_lde (f := eBool) (xs := v315) (x := x329) rfl rfl (idx_get h330).2 rfl rfl rfl ?_
          refine go ?_; intros
          refine s_split rfl (fun c => ?_) (fun c => ?_)
          · replace h1006 := itt h1006 c
            rw [c]
            refine go ?_; intros
            refine r_ire (xs := v315) rfl rfl h330 rfl ?_
            refine go ?_; intros
            refine c_ste (f := eBool) v315 true (idx_get h330).2 ?_
            refine go ?_; intros
            rw [hw327]
            exact k_ln2 _ (Nat.lt_succ_self _) ⟨_, _, _, _, _, _, _, _, _, _, _, _, _, h1006, rfl, drop_next hd323, pin, pinh⟩
          replace h1006 := itf h1006 c
          rw [c]
          refine go ?_; intros
          refine r_ire (xs := v315) rfl rfl h330 rfl ?_
          refine go ?_; intros
          refine c_ste (f := eBool) v315 x321 (idx_get h330).2 ?_
          refine go ?_; intros
          rw [hw327]
          exact k_ln2 _ (Nat.lt_succ_self _) ⟨_, _, _, _, _, _, _, _, _, _, _, _, _, h1006, rfl, drop_next hd323, pin, pinh⟩
      rintro t o ⟨b331, b332, c333, b334, c335, b336, b338, c339, pq1, pq2⟩
      refine pinnedQ pq1 pq2 ?_
      refine go ?_; intros
      rw [hw266]
      exact k_ln2 _ (Nat.lt_succ_self _) ⟨_, _, _, _, _, _, _, _, _, _, _, h1005, rfl, drop_next hd262, pin, pinh⟩
  rintro t o ⟨b340, b341, c342, b343, c344, b345, b347, c348, pq1, pq2⟩
  refine pinnedQ pq1 pq2 ?_
  obtain ⟨h351, h⟩ := gd h
  refine go ?_; intros
  refine r_mks (f := eInt) (x := 0) rfl rfl (band1 h351) (band2 h351) rfl fun b349 => ?_
  obtain ⟨h356, h⟩ := gd h
  refine go ?_; intros
  refine r_app (f := eHead) (xs := ([] : (List Head))) (ys := a0.heads) rfl (src_ro (fun _ => rfl) (fun _ => rfl)) rfl rfl (by first | rfl | simp) h356 fun b354 c355 => ?_
  obtain ⟨hf787, h⟩ := gd h
  obtain ⟨q761, h1007, h⟩ := bnd h
  refine go ?_; intros
  refine w_last (fun t o => ∃ b910 c911 b912 c913 b914 b916 c917 b919 c920 b921 c922 b923, Pin t (ovr [(2, .ptr 16 b914 210 0 0), (8, .ref 448 b916 c917 0 q761.1.length 17), (9, .ptr 72 b923 210 0 0)] t) ∧ PinH o (ovh [(1000256, ent b910 c911 115 (List.map (eCommit true) [])), (1000257, ent b912 c913 130 (List.map eHead [])), (16, ⟨b914, 1, 210, true, [[.al 1000256 b910 c911 0 ([] : List Commit).length 115, .al 1000257 b912 c913 0 ([] : List Head).length 130]]⟩), (448, ent b916 c917 17 (List.map eInt q761.1)), (1001152, ent b919 c920 115 (List.map (eCommit true) q761.2)), (1001153, ent b921 c922 130 (List.map eHead ([] ++ a0.heads))), (72, ⟨b923, 1, 210, true, [[.al 1001152 b919 c920 0 q761.2.length 115, .al 1001153 b921 c922 0 ([] ++ a0.heads).length 130]]⟩)] o)) ?_ ?_
  · refine w_loop2 (fun n t o => ∃ l781 k779 v770 v773 b763 c764 b765 c766 b767 b768 c769 b771 c772 b774 c775 b776 c777 b778, gl_impl_RepoSweep_9 q248 l781 k779 v770 v773 = some q761 ∧ n = l781.length ∧ (a0.commits).drop k779 = l781 ∧ Pin t (ovr [(2, .ptr 16 b767 210 0 0), (3, .ref 184 b768 c769 0 q248.length 33), (8, .ref 448 b771 c772 0 v770.length 17), (9, .ptr 72 b778 210 0 0), (64, .ro (List.map (eCommit false) a0.commits)), (65, .v (.int .i64 (a0.commits.length : Int))), (66, .v (.int .i64 (k779 : Int)))] t) ∧ PinH o (ovh [(1000256, ent b763 c764 115 (List.map (eCommit true) [])), (1000257, ent b765 c766 130 (List.map eHead [])), (16, ⟨b767, 1, 210, true, [[.al 1000256 b763 c764 0 ([] : List Commit).length 115, .al 1000257 b765 c766 0 ([] : List Head).length 130]]⟩), (184, ent b768 c769 33 (List.map eBool q248)), (448, ent b771 c772 17 (List.map eInt v770)), (1001152, ent b774 c775 115 (List.map (eCommit true) v773)), (1001153, ent b776 c777 130 (List.map eHead ([] ++ a0.heads))), (72, ⟨b778, 1, 210, true, [[.al 1001152 b774 c775 0 v773.length 115, .al 1001153 b776 c777 0 ([] ++ a0.heads).length 130]]⟩)] o)) _ ⟨_, _, _, _, _, _, _, _, _, _, _, _, _, _, _, _, _, _, h1007, rfl, rfl, pin, pinh⟩ ?_
    rintro n t o ⟨l781, k779, v770, v773, b763, c764, b765, c766, b767, b768, c769, b771, c772, b774, c775, b776, c777, b778, h1007, rfl, hd782, pq1, pq2⟩
    refine pinned pq1 pq2 ?_
    cases l781 with
    | nil =>
      have hge784 := drop_ge hd782
      rw [gl_impl_RepoSweep_9] at h1007
      refine go ?_; intros
      rw [hge784]
      refine go ?_; intros
      cases h1007
      exact k_cn ⟨_, _, _, _, _, _, _, _, _, _, _, _, pin, pinh⟩
    | cons x780 l781 =>
      have hlt783 := drop_lt hd782
      have hx785 := drop_ix hd782
      have hw786 := drop_wr hd782 hf787
      rw [gl_impl_RepoSweep_9] at h1007
      refine go ?_; intros
      rw [hlt783]
      refine go ?_; intros
      refine r_iro rfl rfl hx785 rfl ?_
      obtain ⟨x789, h790, h1007⟩ := bnd h1007
      refine go ?_; intros
      refine r_ire (xs := v770) rfl rfl h790 rfl ?_
      refine go ?_; intros
      refine c_ste (f := eInt) v770 (v773.length : Int) (idx_get h790).2 ?_
      obtain ⟨x791, h792, h1007⟩ := bnd h1007
      refine go ?_; intros
      refine r_ire (xs := q248) rfl rfl h792 rfl ?_
      refine go ?_; intros
      refine r_lde (f := eBool) (xs := q248) (x := x791) rfl rfl (idx_get h792).2 rfl rfl rfl ?_
      refine go ?_; intros
      refine w_cond rfl (fun c => ?_) (fun c => ?_)
      · replace h1007 := itt h1007 c
        try rw [c]
        refine go ?_; intros
        rw [hw786]
        exact k_ln2 _ (Nat.lt_succ_self _) ⟨_, _, _, _, _, _, _, _, _, _, _, _, _, _, _, _, _, _, h1007, rfl, drop_next hd782, pin, pinh⟩
      replace h1007 := itf h1007 c
      try rw [c]
      obtain ⟨x793, h794, h1007⟩ := bnd h1007
      refine go ?_; intros
      refine c_call (c := c_impl_cloneCommit) (x780) H_impl_cloneCommit h794 fun ch => ?_
      obtain ⟨hf881, h1007⟩ := gd h1007
      obtain ⟨q851, h1008, h1007⟩ := bnd h1007
      refine go ?_; intros
      refine w_last (fun t o => ∃ b886 c887 b888 c889 b890 b891 c892 b893 c894 b895 c896 b897 c898 b899 b901 c902 b903 c904 b905, Pin t (ovr [(2, .ptr 16 b890 210 0 0), (3, .ref 184 b891 c892 0 q248.length 33), (8, .ref 448 b893 c894 0 (List.set v770 (k779 : Int).toNat (v773.length : Int)).length 17), (9, .ptr 72 b899 210 0 0), (11, .ptr 88 b905 115 0 0), (64, .ro (List.map (eCommit false) a0.commits)), (65, .v (.int .i64 (a0.commits.length : Int))), (66, .v (.int .i64 (k779 : Int)))] t) ∧ PinH o (ovh [(1000256, ent b886 c887 115 (List.map (eCommit true) [])), (1000257, ent b888 c889 130 (List.map eHead [])), (16, ⟨b890, 1, 210, true, [[.al 1000256 b886 c887 0 ([] : List Commit).length 115, .al 1000257 b888 c889 0 ([] : List Head).length 130]]⟩), (184, ent b891 c892 33 (List.map eBool q248)), (448, ent b893 c894 17 (List.map eInt (List.set v770 (k779 : Int).toNat (v773.length : Int)))), (1001152, ent b895 c896 115 (List.map (eCommit true) v773)), (1001153, ent b897 c898 130 (List.map eHead ([] ++ a0.heads))), (72, ⟨b899, 1, 210, true, [[.al 1001152 b895 c896 0 v773.length 115, .al 1001153 b897 c898 0 ([] ++ a0.heads).length 130]]⟩), (1001408, ent b901 c902 17 (List.map eInt q851)), (1001409, ent b903 c904 100 (List.map (eFeat true) x793.sheet)), (88, ⟨b905, 1, 115, true, [[.al 1001408 b901 c902 0 q851.length 17, .al 1001409 b903 c904 0 x793.sheet.length 100, .v (.string x793.note)]]⟩)] o)) ?_ ?_
      · refine w_loop2 (fun n t o => ∃ l875 k873 v867 b853 c854 b855 c856 b857 b858 c859 b860 c861 b862 c863 b864 c865 b866 b868 c869 b870 c871 b872, gl_impl_RepoSweep_10 v770 k779 v773 l875 k873 v867 = some q851 ∧ n = l875.length ∧ (x793.up).drop k873 = l875 ∧ Pin t (ovr [(2, .ptr 16 b857 210 0 0), (3, .ref 184 b858 c859 0 q248.length 33), (8, .ref 448 b860 c861 0 (List.set v770 (k779 : Int).toNat (v773.length : Int)).length 17), (9, .ptr 72 b866 210 0 0), (11, .ptr 88 b872 115 0 0), (64, .ro (List.map (eCommit false) a0.commits)), (65, .v (.int .i64 (a0.commits.length : Int))), (66, .v (.int .i64 (k779 : Int))), (85, .ref 1001408 b868 c869 0 v867.length 17), (86, .v (.int .i64 (x793.up.length : Int))), (87, .v (.int .i64 (k873 : Int)))] t) ∧ PinH o (ovh [(1000256, ent b853 c854 115 (List.map (eCommit true) [])), (1000257, ent b855 c856 130 (List.map eHead [])), (16, ⟨b857, 1, 210, true, [[.al 1000256 b853 c854 0 ([] : List Commit).length 115, .al 1000257 b855 c856 0 ([] : List Head).length 130]]⟩), (184, ent b858 c859 33 (List.map eBool q248)), (448, ent b860 c861 17 (List.map eInt (List.set v770 (k779 : Int).toNat (v773.length : Int)))), (1001152, ent b862 c863 115 (List.map (eCommit true) v773)), (1001153, ent b864 c865 130 (List.map eHead ([] ++ a0.heads))), (72, ⟨b866, 1, 210, true, [[.al 1001152 b862 c863 0 v773.length 115, .al 1001153 b864 c865 0 ([] ++ a0.heads).length 130]]⟩), (1001408, ent b868 c869 17 (List.map eInt v867)), (1001409, ent b870 c871 100 (List.map (eFeat true) x793.sheet)), (88, ⟨b872, 1, 115, true, [[.al 1001408 b868 c869 0 v867.length 17, .al 1001409 b870 c871 0 x793.sheet.length 100, .v (.string x793.note)]]⟩)] o)) _ ⟨_, _, _, _, _, _, _, _, _, _, _, _, _, _, _, _, _, _, _, _, _, _, h1008, rfl, rfl, pin, pinh⟩ ?_
        rintro n t o ⟨l875, k873, v867, b853, c854, b855, c856, b857, b858, c859, b860, c861, b862, c863, b864, c865, b866, b868, c869, b870, c871, b872, h1008, rfl, hd876, pq1, pq2⟩
        refine pinned pq1 pq2 ?_
        cases l875 with
        | nil =>
          have hge878 := drop_ge hd876
          rw [gl_impl_RepoSweep_10] at h1008
          refine go ?_; intros
          rw [hge878]
          refine go ?_; intros
          cases h1008
          exact k_cn ⟨_, _, _, _, _, _, _, _, _, _, _, _, _, _, _, _, _, _, _, pin, pinh⟩
        | cons x874 l875 =>
          have hlt877 := drop_lt hd876
          have hx879 := drop_ix hd876
          have hw880 := drop_wr hd876 hf881
          rw [gl_impl_RepoSweep_10] at h1008
          refine go ?_; intros
          rw [hlt877]
          obtain ⟨x882, h883, h1008⟩ := bnd h1008
          refine go ?_; intros
          refine r_ire (xs := v867) rfl rfl h883 rfl ?_
          refine go ?_; intros
          refine r_lde (f := eInt) (xs := v867) (x := x882) rfl rfl (idx_get h883).2 rfl rfl rfl ?_
          obtain ⟨x884, h885, h1008⟩ := bnd h1008
          refine go ?_; intros
          refine r_ire (xs := (List.set v770 (k779 : Int).toNat (v773.length : Int))) rfl rfl h885 rfl ?_
          refine go ?_; intros
          refine r_lde (f := eInt) (xs := (List.set v770 (k779 : Int).toNat (v773.length : Int))) (x := x884) rfl rfl (idx_get h885).2 rfl rfl rfl ?_
          refine go ?_; intros
          refine r_ire (xs := v867) rfl rfl h883 rfl ?_
          refine go ?_; intros
          refine c_ste (f := eInt) v867 x884 (idx_get h883).2 ?_
          refine go ?_; intros
          rw [hw880]
          exact k_ln2 _ (Nat.lt_succ_self _) ⟨_, _, _, _, _, _, _, _, _, _, _, _, _, _, _, _, _, _, _, _, _, _, h1008, rfl, drop_next hd876, pin, pinh⟩
      rintro t o ⟨b886, c887, b888, c889, b890, b891, c892, b893, c894, b895, c896, b897, c898, b899, b901, c902, b903, c904, b905, pq1, pq2⟩
      refine pinnedQ pq1 pq2 ?_
      refine go ?_; intros
      try simp only [take_map_len, take_ent]
      obtain ⟨h909, h1007⟩ := gd h1007
      refine go ?_; intros
      refine r_app (f := (eCommit true)) (xs := v773) (ys := ([(⟨q851, x793.sheet, x793.note⟩ : Commit)] : (List Commit))) rfl (src_mv rfl rfl (by first | rfl | simp)) rfl rfl (by first | rfl | simp) h909 fun b907 c908 => ?_
      refine go ?_; intros
      rw [hw786]
      exact k_ln2 _ (Nat.lt_succ_self _) ⟨_, _, _, _, _, _, _, _, _, _, _, _, _, _, _, _, _, _, h1007, rfl, drop_next hd782, pin, pinh⟩
  rintro t o ⟨b910, c911, b912, c913, b914, b916, c917, b919, c920, b921, c922, b923, pq1, pq2⟩
  refine pinnedQ pq1 pq2 ?_
  obtain ⟨hf988, h⟩ := gd h
  obtain ⟨q965, h1009, h⟩ := bnd h
  refine go ?_; intros
  refine w_last (fun t o => ∃ b994 c995 b996 c997 b998 b999 c1000 b1002 c1003 b1004, Pin t (ovr [(2, .ptr 16 b998 210 0 0), (9, .ptr 72 b1004 210 0 0)] t) ∧ PinH o (ovh [(1000256, ent b994 c995 115 (List.map (eCommit true) [])), (1000257, ent b996 c997 130 (List.map eHead [])), (16, ⟨b998, 1, 210, true, [[.al 1000256 b994 c995 0 ([] : List Commit).length 115, .al 1000257 b996 c997 0 ([] : List Head).length 130]]⟩), (1001152, ent b999 c1000 115 (List.map (eCommit true) q761.2)), (1001153, ent b1002 c1003 130 (List.map eHead q965)), (72, ⟨b1004, 1, 210, true, [[.al 1001152 b999 c1000 0 q761.2.length 115, .al 1001153 b1002 c1003 0 q965.length 130]]⟩)] o)) ?_ ?_
  · refine w_loop2 (fun n t o => ∃ l982 k980 v976 b967 c968 b969 c970 b971 b972 c973 b974 c975 b977 c978 b979, gl_impl_RepoSweep_11 q761 l982 k980 v976 = some q965 ∧ n = l982.length ∧ (([] ++ a0.heads)).drop k980 = l982 ∧ Pin t (ovr [(2, .ptr 16 b971 210 0 0), (8, .ref 448 b972 c973 0 q761.1.length 17), (9, .ptr 72 b979 210 0 0), (109, .ref 1001153 b977 c978 0 v976.length 130), (110, .v (.int .i64 (([] ++ a0.heads).length : Int))), (111, .v (.int .i64 (k980 : Int)))] t) ∧ PinH o (ovh [(1000256, ent b967 c968 115 (List.map (eCommit true) [])), (1000257, ent b969 c970 130 (List.map eHead [])), (16, ⟨b971, 1, 210, true, [[.al 1000256 b967 c968 0 ([] : List Commit).length 115, .al 1000257 b969 c970 0 ([] : List Head).length 130]]⟩), (448, ent b972 c973 17 (List.map eInt q761.1)), (1001152, ent b974 c975 115 (List.map (eCommit true) q761.2)), (1001153, ent b977 c978 130 (List.map eHead v976)), (72, ⟨b979, 1, 210, true, [[.al 1001152 b974 c975 0 q761.2.length 115, .al 1001153 b977 c978 0 v976.length 130]]⟩)] o)) _ ⟨_, _, _, _, _, _, _, _, _, _, _, _, _, _, _, h1009, rfl, rfl, pin, pinh⟩ ?_
    rintro n t o ⟨l982, k980, v976, b967, c968, b969, c970, b971, b972, c973, b974, c975, b977, c978, b979, h1009, rfl, hd983, pq1, pq2⟩
    refine pinned pq1 pq2 ?_
    cases l982 with
    | nil =>
      have hge985 := drop_ge hd983
      rw [gl_impl_RepoSweep_11] at h1009
      refine go ?_; intros
      rw [hge985]
      refine go ?_; intros
      cases h1009
      exact k_cn ⟨_, _, _, _, _, _, _, _, _, _, pin, pinh⟩
    | cons x981 l982 =>
      have hlt984 := drop_lt hd983
      have hx986 := drop_ix hd983
      have hw987 := drop_wr hd983 hf988
      rw [gl_impl_RepoSweep_11] at h1009
      refine go ?_; intros
      rw [hlt984]
      obtain ⟨x989, h990, h1009⟩ := bnd h1009
      refine go ?_; intros
      refine r_ire (xs := v976) rfl rfl h990 rfl ?_
      refine go ?_; intros
      refine r_lde (f := eHead) (xs := v976) (x := x989) rfl rfl (idx_get h990).2 rfl rfl rfl ?_
      obtain ⟨x992, h993, h1009⟩ := bnd h1009
      refine go ?_; intros
      refine r_ire (xs := q761.1) rfl rfl h993 rfl ?_
      refine go ?_; intros
      refine r_lde (f := eInt) (xs := q761.1) (x := x992) rfl rfl (idx_get h993).2 rfl rfl rfl ?_
      refine go ?_; intros
      refine r_ire (xs := v976) rfl rfl h990 rfl ?_
      refine go ?_; intros
      refine c_ste (f := eHead) v976 (⟨x989.name, x992⟩ : Head) (idx_get h990).2 ?_
      refine go ?_; intros
      rw [hw987]
      exact k_ln2 _ (Nat.lt_succ_self _) ⟨_, _, _, _, _, _, _, _, _, _, _, _, _, _, _, h1009, rfl, drop_next hd983, pin, pinh⟩
  rintro t o ⟨b994, c995, b996, c997, b998, b999, c1000, b1002, c1003, b1004, pq1, pq2⟩
  refine pinnedQ pq1 pq2 ?_
  refine go ?_; intros
  cases h
  exact r_end
end Go.Proofs.AM
