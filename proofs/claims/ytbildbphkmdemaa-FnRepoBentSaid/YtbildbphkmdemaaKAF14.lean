/- A part of the proofs of this seat's statements (KAF14): lemmas on an abstract machine for the program's functions. Conditions: none. -/
import Derived.Test.YtbildbphkmdemaaKAD
set_option linter.unusedVariables false
set_option linter.unusedSimpArgs false
set_option maxRecDepth 100000
set_option maxHeartbeats 4000000
namespace Go.Proofs.AM
attribute [local irreducible] vwp vstps vstpLs vstp vdo vret kseq kblk kloop kend kcut kloop2 frzV renV shutK pfzV trnV unrV
theorem d_spec_l7Bent {G : Gam} (H_spec_l7Repo : Has G c_spec_l7Repo) (H_spec_l12Rd_pick : Has G c_spec_l12Rd_pick) (H_spec_l12Rd_num : Has G c_spec_l12Rd_num) (H_spec_l3Bent : Has G c_spec_l3Bent) (a0 : Rd) (g0 : Option Addr) (g1 : Nat) (r : (Repo × Int)) (h : gf_spec_l7Bent a0 = some r) : Does G if_spec_l7Bent ks_spec_l7Bent (c_spec_l7Bent.args (a0, g0, g1)) (c_spec_l7Bent.ins (a0, g0, g1)) (c_spec_l7Bent.ans (a0, g0, g1) r) := by
  refine does_pg (L := fun bs => [(0, .ptr 0 (bs 0).1 290 0 0)]) (H := fun bs => [(0, ⟨(bs 0).1, (bs 0).2, 290, true, [[.rw g0 g1 (List.map eU8 a0.b), .v (.int .i64 a0.p)]]⟩)]) (fun bs => pin) (fun bs => pinh) fun bs t o => ?_
  show vwp _ ib_spec_l7Bent _ _
  unfold ib_spec_l7Bent
  refine w_ir ?_
  unfold gf_spec_l7Bent at h
  obtain ⟨x2, h3, h⟩ := bnd h
  refine go ?_; intros
  refine c_callg (c := c_spec_l7Repo) (a0, g0, g1) H_spec_l7Repo h3 fun ch => ?_
  obtain ⟨x9, h10, h⟩ := bnd h
  refine go ?_; intros
  refine c_callg (c := c_spec_l12Rd_pick) ((⟨a0.b, x2.2⟩ : Rd), (x2.1.commits.length : Int), g0, g1) H_spec_l12Rd_pick h10 fun ch => ?_
  obtain ⟨x11, h12, h⟩ := bnd h
  refine go ?_; intros
  refine c_callg (c := c_spec_l12Rd_pick) ((⟨a0.b, x9.2⟩ : Rd), 48, g0, g1) H_spec_l12Rd_pick h12 fun ch => ?_
  obtain ⟨q13, h53, h⟩ := bnd h
  refine go ?_; intros
  refine w_cut (fun t o => ∃ b14 c15 b16 c17 b18 b19 c20 b21 c22 b23, Pin t (ovr [(0, .ptr 0 (bs 0).1 290 0 0), (2, .ptr 16 b18 210 0 0), (3, .ptr 24 b23 210 0 0), (4, .v (.int .i64 x9.1)), (13, .v (.int .i64 x11.1)), (14, .v (.bool (x11.1 == 0)))] t) ∧ PinH o (ovh [(0, ⟨(bs 0).1, (bs 0).2, 290, true, [[.rw g0 g1 (List.map eU8 a0.b), .v (.int .i64 x11.2)]]⟩), (1000256, ent b14 c15 115 (List.map (eCommit true) [])), (1000257, ent b16 c17 130 (List.map eHead [])), (16, ⟨b18, 1, 210, true, [[.al 1000256 b14 c15 0 ([] : List Commit).length 115, .al 1000257 b16 c17 0 ([] : List Head).length 130]]⟩), (1000384, ent b19 c20 115 (List.map eCommitX x2.1.commits)), (1000385, ent b21 c22 130 (List.map eHead x2.1.heads)), (24, ⟨b23, 1, 210, true, [[.al 1000384 b19 c20 0 x2.1.commits.length 115, .al 1000385 b21 c22 0 x2.1.heads.length 130]]⟩)] o)) ?_ ?_
  · refine go ?_; intros
    cases h53
    exact k_cn ⟨_, _, _, _, _, _, _, _, _, _, pin, pinh⟩
  rintro t o ⟨b14, c15, b16, c17, b18, b19, c20, b21, c22, b23, pq1, pq2⟩
  refine pinned pq1 pq2 ?_
  refine go ?_; intros
  refine w_cond rfl (fun c => ?_) (fun c => ?_)
  · replace h := itt h c
    try rw [c]
    obtain ⟨x25, h26, h⟩ := bnd h
    refine go ?_; intros
    refine c_callg (c := c_spec_l12Rd_num) ((⟨a0.b, x11.2⟩ : Rd), ([(-1), (x2.1.commits.length : Int)] : (List Int)), g0, g1) H_spec_l12Rd_num h26 fun ch => ?_
    obtain ⟨x27, h28, h⟩ := bnd h
    refine go ?_; intros
    refine r_ire (xs := x2.1.heads) rfl rfl h28 rfl ?_
    refine go ?_; intros
    refine c_ste (f := eHead) x2.1.heads (⟨x27.name, x25.1⟩ : Head) (idx_get h28).2 ?_
    refine go ?_; intros
    cases h
    exact r_endg
  replace h := itf h c
  try rw [c]
  refine go ?_; intros
  refine w_cond rfl (fun c => ?_) (fun c => ?_)
  · replace h := itt h c
    try rw [c]
    obtain ⟨x29, h30, h⟩ := bnd h
    refine go ?_; intros
    refine r_ire (xs := x2.1.commits) rfl rfl h30 rfl ?_
    refine go ?_; intros
    refine r_lopg (f := eCommitX) (g := eInt) (xs := x2.1.commits) (x := x29) (ys := x29.up) (idx_get h30).2 rfl rfl rfl fun b31 c32 => ?_
    obtain ⟨h36, h⟩ := gd h
    refine go ?_; intros
    refine r_app (f := eInt) (xs := x29.up) (ys := ([x9.1] : (List Int))) rfl (src_mv rfl rfl (by first | rfl | simp)) rfl rfl (by first | rfl | simp) h36 fun b34 c35 => ?_
    refine go ?_; intros
    refine r_ire (xs := x2.1.commits) rfl rfl h30 rfl ?_
    refine go ?_; intros
    refine c_stc (f := eCommitX) x2.1.commits (⟨(x29.up ++ ([x9.1] : (List Int))), x29.sheet, x29.note⟩ : Commit) (idx_get h30).2 ?_
    refine go ?_; intros
    cases h
    exact r_endg
  replace h := itf h c
  try rw [c]
  refine go ?_; intros
  refine w_cond rfl (fun c => ?_) (fun c => ?_)
  · replace h := itt h c
    try rw [c]
    refine go ?_; intros
    refine r_frz ?_
    obtain ⟨x37, h38, h⟩ := bnd h
    refine go ?_; intros
    refine c_callg (c := c_spec_l3Bent) ((⟨a0.b, x11.2⟩ : Rd), g0, g1) H_spec_l3Bent h38 fun ch => ?_
    refine go ?_; intros
    refine c_fz ?_
    obtain ⟨x41, h42, h⟩ := bnd h
    refine go ?_; intros
    refine r_ire (xs := x2.1.commits) rfl rfl h42 rfl ?_
    refine go ?_; intros
    refine c_ste (f := eCommitX) x2.1.commits (⟨x41.up, x37.1, x41.note⟩ : Commit) (idx_get h42).2 ?_
    refine go ?_; intros
    cases h
    exact r_endg
  replace h := itf h c
  try rw [c]
  refine go ?_; intros
  refine w_cond rfl (fun c => ?_) (fun c => ?_)
  · replace h := itt h c
    try rw [c]
    obtain ⟨x43, h44, h⟩ := bnd h
    refine go ?_; intros
    refine r_ire (xs := x2.1.commits) rfl rfl h44 rfl ?_
    refine go ?_; intros
    refine c_ste (f := eCommitX) x2.1.commits (⟨x43.up, x43.sheet, (⟨#[]⟩ : Str)⟩ : Commit) (idx_get h44).2 ?_
    refine go ?_; intros
    cases h
    exact r_endg
  replace h := itf h c
  try rw [c]
  refine go ?_; intros
  refine w_cond rfl (fun c => ?_) (fun c => ?_)
  · replace h := itt h c
    try rw [c]
    obtain ⟨x45, h46, h⟩ := bnd h
    refine go ?_; intros
    refine r_ire (xs := x2.1.heads) rfl rfl h46 rfl ?_
    refine go ?_; intros
    refine r_lde (f := eHead) (xs := x2.1.heads) (x := x45) rfl rfl (idx_get h46).2 rfl rfl rfl ?_
    obtain ⟨h50, h⟩ := gd h
    refine go ?_; intros
    refine r_app (f := eHead) (xs := x2.1.heads) (ys := ([x45] : (List Head))) rfl (src_mv rfl rfl (by first | rfl | simp)) rfl rfl (by first | rfl | simp) h50 fun b48 c49 => ?_
    refine go ?_; intros
    cases h
    exact r_endg
  replace h := itf h c
  try rw [c]
  refine go ?_; intros
  refine w_cond rfl (fun c => ?_) (fun c => ?_)
  · replace h := itt h c
    try rw [c]
    obtain ⟨x51, h52, h⟩ := bnd h
    refine go ?_; intros
    refine r_ire (xs := x2.1.commits) rfl rfl h52 rfl ?_
    refine go ?_; intros
    refine c_ste (f := eCommitX) x2.1.commits (⟨[], x51.sheet, x51.note⟩ : Commit) (idx_get h52).2 ?_
    refine go ?_; intros
    cases h
    exact r_endg
  replace h := itf h c
  try rw [c]
  refine go ?_; intros
  cases h
  exact r_endg
theorem d_spec_DrawRepoOk {G : Gam} (H_spec_l12Open : Has G c_spec_l12Open) (H_spec_l7Bent : Has G c_spec_l7Bent) (a0 : (List UInt8)) (g0 : Option Addr) (g1 : Nat) (r : Repo) (h : gf_spec_DrawRepoOk a0 = some r) : Does G if_spec_DrawRepoOk ks_spec_DrawRepoOk (c_spec_DrawRepoOk.args (a0, g0, g1)) [] (c_spec_DrawRepoOk.ans (a0, g0, g1) r) := by
  refine does_pn (L := [(0, .raw g0 g1 (List.map eU8 a0))]) (fun bs => pin) fun bs t o => ?_
  show vwp _ ib_spec_DrawRepoOk _ _
  unfold ib_spec_DrawRepoOk
  refine w_ir ?_
  unfold gf_spec_DrawRepoOk at h
  obtain ⟨x2, h3, h⟩ := bnd h
  refine go ?_; intros
  refine c_call (c := c_spec_l12Open) (a0, g0, g1) H_spec_l12Open h3 fun ch => ?_
  obtain ⟨x5, h6, h⟩ := bnd h
  refine go ?_; intros
  refine c_callg (c := c_spec_l7Bent) (x2, g0, g1) H_spec_l7Bent h6 fun ch => ?_
  refine go ?_; intros
  cases h
  exact r_end
theorem d_slices_Delete_impl_Head_impl_Head {G : Gam} (a0 : (List Head)) (a1 : Int) (a2 : Int) (r : (List Head)) (h : gf_slices_Delete_impl_Head_impl_Head a0 a1 a2 = some r) : Does G if_slices_Delete_impl_Head_impl_Head ks_slices_Delete_impl_Head_impl_Head (c_slices_Delete_impl_Head_impl_Head.args (a0, a1, a2)) (c_slices_Delete_impl_Head_impl_Head.ins (a0, a1, a2)) (c_slices_Delete_impl_Head_impl_Head.ans (a0, a1, a2) r) := by
  refine does_pg (L := fun bs => [(0, .ref 0 (bs 0).1 (bs 0).2 0 a0.length 130), (1, .v (.int .i64 a1)), (2, .v (.int .i64 a2))]) (H := fun bs => [(0, ent (bs 0).1 (bs 0).2 130 (List.map eHead a0))]) (fun bs => pin) (fun bs => pinh) fun bs t o => ?_
  show vwp _ ib_slices_Delete_impl_Head_impl_Head _ _
  unfold ib_slices_Delete_impl_Head_impl_Head
  refine w_ir ?_
  unfold gf_slices_Delete_impl_Head_impl_Head at h
  obtain ⟨q, hs, h⟩ := bnd h
  obtain ⟨s0, s1, s2⟩ := slc_le hs
  refine go ?_; intros
  refine r_sl3 rfl rfl rfl rfl rfl hs rfl ?_
  refine go ?_; intros
  refine w_cond rfl (fun c => ?_) (fun c => ?_)
  · replace h := itt h c
    try rw [c]
    refine go ?_; intros
    cases h
    exact r_endg
  replace h := itf h c
  try rw [c]
  refine go ?_; intros
  refine r_slv0 (j := a1) rfl rfl rfl rfl s0 (by omega) ?_
  refine go ?_; intros
  refine r_slv1 (j := a2) rfl rfl rfl rfl (by omega) s2 ?_
  refine go ?_; intros
  refine r_ain (f := eHead) (xs := a0) (ys := a0.drop a2.toNat) (i := a1.toNat) (j := a2.toNat) (m := a0.length - a2.toNat) rfl rfl rfl (del_ys a0) (by omega) (by omega) (fun _ => rfl) ?_
  refine go ?_; intros
  refine r_slx2 (i := ((a1.toNat + (a0.length - a2.toNat) : Nat) : Int)) (j := (a0.length : Int)) (rows := List.map eHead (a0.take a1.toNat ++ a0.drop a2.toNat ++ a0.drop (a1.toNat + (a0.length - a2.toNat)))) rfl rfl rfl rfl rfl (by omega) (by omega) (by simp; omega) ?_
  refine go ?_; intros
  refine r_clr (f := eHead) (xs := a0.take a1.toNat ++ a0.drop a2.toNat ++ a0.drop (a1.toNat + (a0.length - a2.toNat))) (z0 := (⟨⟨#[]⟩, 0⟩ : Head)) rfl rfl rfl (by simp; omega) (fun _ => rfl) ?_
  refine go ?_; intros
  refine r_trn ?_
  refine go ?_; intros
  refine r_trv (f := eHead) (ys := a0.take a1.toNat ++ a0.drop a2.toNat) (xs := del_xs a0 a1 a2 (⟨⟨#[]⟩, 0⟩ : Head)) rfl rfl (del_eq s0 s1 s2) (del_le s0 s1 s2) ?_
  refine go ?_; intros
  cases h
  rw [del_len s0 s1 s2]
  exact r_endg
theorem d_impl_RepoDrop {G : Gam} (H_impl_RepoOk : Has G c_impl_RepoOk) (H_impl_cloneRepo : Has G c_impl_cloneRepo) (H_impl_Repo_head : Has G c_impl_Repo_head) (H_slices_Delete_impl_Head_impl_Head : Has G c_slices_Delete_impl_Head_impl_Head) (a0 : Repo) (a1 : Str) (r : (Repo × Int)) (h : gf_impl_RepoDrop a0 a1 = some r) : Does G if_impl_RepoDrop ks_impl_RepoDrop (c_impl_RepoDrop.args (a0, a1)) [] (c_impl_RepoDrop.ans (a0, a1) r) := by
  refine does_pn (L := [(0, .agg [.ro (List.map (eCommit false) a0.commits), .ro (List.map eHead a0.heads)]), (1, .v (.string a1))]) (fun bs => pin) fun bs t o => ?_
  show vwp _ ib_impl_RepoDrop _ _
  unfold ib_impl_RepoDrop
  refine w_ir ?_
  unfold gf_impl_RepoDrop at h
  obtain ⟨x3, h4, h⟩ := bnd h
  refine go ?_; intros
  refine c_call (c := c_impl_RepoOk) (a0) H_impl_RepoOk h4 fun ch => ?_
  refine go ?_; intros
  refine w_cond rfl (fun c => ?_) (fun c => ?_)
  · replace h := itt h c
    try rw [c]
    refine go ?_; intros
    cases h
    exact r_end
  replace h := itf h c
  try rw [c]
  obtain ⟨q5, h36, h⟩ := bnd h
  refine go ?_; intros
  refine w_cut (fun t o => ∃ b13 b14 c15 b16 c17 b18 b20 c21 b23 c24 b25, Pin t (ovr [(1, .v (.string a1)), (2, .ptr 16 b13 210 0 0), (4, .ptr 32 b18 210 0 0), (6, .ptr 48 b25 210 0 0)] t) ∧ PinH o (ovh [(16, ⟨b13, 1, 210, true, [[.sl false 3 (List.map (eCommit false) a0.commits), .sl false 2 (List.map eHead a0.heads)]]⟩), (1000512, ent b14 c15 115 (List.map (eCommit true) [])), (1000513, ent b16 c17 130 (List.map eHead [])), (32, ⟨b18, 1, 210, true, [[.al 1000512 b14 c15 0 ([] : List Commit).length 115, .al 1000513 b16 c17 0 ([] : List Head).length 130]]⟩), (1000768, ent b20 c21 115 (List.map (eCommit true) q5.1)), (1000769, ent b23 c24 130 (List.map eHead q5.2)), (48, ⟨b25, 1, 210, true, [[.al 1000768 b20 c21 0 q5.1.length 115, .al 1000769 b23 c24 0 q5.2.length 130]]⟩)] o)) ?_ ?_
  · obtain ⟨x6, h7, h36⟩ := bnd h36
    refine go ?_; intros
    refine c_call (c := c_impl_cloneRepo) (a0) H_impl_cloneRepo h7 fun ch => ?_
    refine go ?_; intros
    cases h36
    exact k_cn ⟨_, _, _, _, _, _, _, _, _, _, _, pin, pinh⟩
  rintro t o ⟨b13, b14, c15, b16, c17, b18, b20, c21, b23, c24, b25, pq1, pq2⟩
  refine pinned pq1 pq2 ?_
  obtain ⟨x26, h27, h⟩ := bnd h
  refine go ?_; intros
  refine c_call (c := c_impl_Repo_head) (a0, a1) H_impl_Repo_head h27 fun ch => ?_
  refine go ?_; intros
  refine w_cond rfl (fun c => ?_) (fun c => ?_)
  · replace h := itt h c
    try rw [c]
    refine go ?_; intros
    cases h
    exact r_end
  replace h := itf h c
  try rw [c]
  refine go ?_; intros
  refine w_cond rfl (fun c => ?_) (fun c => ?_)
  · replace h := itt h (by first | exact c | (have c2 := c; simp only [List.length_map] at c2; exact c2))
    try rw [c]
    refine go ?_; intros
    cases h
    exact r_end
  replace h := itf h (by first | exact c | (have c2 := c; simp only [List.length_map] at c2; exact c2))
  try rw [c]
  obtain ⟨x29, h30, h⟩ := bnd h
  refine go ?_; intros
  refine c_callg (c := c_slices_Delete_impl_Head_impl_Head) (q5.2, x26, (IntKind.i64.wrap (x26 + 1))) H_slices_Delete_impl_Head_impl_Head h30 fun ch => ?_
  obtain ⟨h35, h⟩ := gd h
  refine go ?_; intros
  refine r_app (f := eHead) (xs := ([] : (List Head))) (ys := x29) rfl (src_cp (f := eHead) rfl (by first | rfl | simp) (fun _ => rfl)) rfl rfl (by first | rfl | simp) h35 fun b33 c34 => ?_
  refine go ?_; intros
  cases h
  exact r_end
theorem d_impl_RepoAt {G : Gam} (H_impl_Repo_head : Has G c_impl_Repo_head) (H_impl_RepoOk : Has G c_impl_RepoOk) (a0 : Repo) (a1 : Str) (r : Int) (h : gf_impl_RepoAt a0 a1 = some r) : Does G if_impl_RepoAt ks_impl_RepoAt (c_impl_RepoAt.args (a0, a1)) [] (c_impl_RepoAt.ans (a0, a1) r) := by
  refine does_pn (L := [(0, .agg [.ro (List.map (eCommit false) a0.commits), .ro (List.map eHead a0.heads)]), (1, .v (.string a1))]) (fun bs => pin) fun bs t o => ?_
  show vwp _ ib_impl_RepoAt _ _
  unfold ib_impl_RepoAt
  refine w_ir ?_
  unfold gf_impl_RepoAt at h
  obtain ⟨x2, h3, h⟩ := bnd h
  refine go ?_; intros
  refine c_call (c := c_impl_Repo_head) (a0, a1) H_impl_Repo_head h3 fun ch => ?_
  obtain ⟨x4, h5, h⟩ := bnd h
  refine go ?_; intros
  refine c_call (c := c_impl_RepoOk) (a0) H_impl_RepoOk h5 fun ch => ?_
  refine go ?_; intros
  refine s_split rfl (fun c => ?_) (fun c => ?_)
  · replace h := itt h c
    rw [c]
    refine go ?_; intros
    cases h
    exact r_end
  replace h := itf h c
  rw [c]
  refine go ?_; intros
  refine w_cond rfl (fun c => ?_) (fun c => ?_)
  · replace h := itt h c
    try rw [c]
    refine go ?_; intros
    cases h
    exact r_end
  replace h := itf h c
  try rw [c]
  obtain ⟨x6, h7, h⟩ := bnd h
  refine go ?_; intros
  refine r_iro rfl rfl h7 rfl ?_
  refine go ?_; intros
  cases h
  exact r_end
theorem d_impl_greatestFirst {G : Gam}  (a0 : (List Bool)) (r : (List Int)) (h : gf_impl_greatestFirst a0 = some r) : Does G if_impl_greatestFirst ks_impl_greatestFirst (c_impl_greatestFirst.args (a0)) [] (c_impl_greatestFirst.ans (a0) r) := by
  refine does_pn (L := [(0, .ro (List.map eBool a0))]) (fun bs => pin) fun bs t o => ?_
  show vwp _ ib_impl_greatestFirst _ _
  unfold ib_impl_greatestFirst
  refine w_ir ?_
  unfold gf_impl_greatestFirst at h
  obtain ⟨q26, h41, h⟩ := bnd h
  refine go ?_; intros
  refine w_last (fun t o => ∃ b39 c40, Pin t (ovr [(3, .ref 40 b39 c40 0 q26.length 17)] t) ∧ PinH o (ovh [(40, ent b39 c40 17 (List.map eInt q26))] o)) ?_ ?_
  · refine w_loop2 (fun n t o => ∃ n31 v27 v28 b29 c30, gl_impl_greatestFirst_1 a0 n31 v27 v28 = some q26 ∧ n31 = n ∧ Pin t (ovr [(0, .ro (List.map eBool a0)), (3, .ref 40 b29 c30 0 v28.length 17), (4, .v (.int .i64 v27))] t) ∧ PinH o (ovh [(40, ent b29 c30 17 (List.map eInt v28))] o)) _ ⟨_, _, _, _, _, h41, rfl, pin, pinh⟩ ?_
    rintro n t o ⟨n31, v27, v28, b29, c30, h41, rfl, pq1, pq2⟩
    refine pinned pq1 pq2 ?_
    cases n31 with
    | zero => rw [gl_impl_greatestFirst_1] at h41; cases h41
    | succ n31 =>
      rw [gl_impl_greatestFirst_1] at h41
      refine go ?_; intros
      refine w_cond rfl (fun c => ?_) (fun c => ?_)
      · replace h41 := itt h41 c
        try rw [c]
        obtain ⟨x32, h33, h41⟩ := bnd h41
        refine go ?_; intros
        refine r_iro rfl rfl h33 rfl ?_
        refine go ?_; intros
        refine w_cond rfl (fun c => ?_) (fun c => ?_)
        · replace h41 := itt h41 c
          try rw [c]
          obtain ⟨h37, h41⟩ := gd h41
          refine go ?_; intros
          refine r_app (f := eInt) (xs := v28) (ys := ([v27] : (List Int))) rfl (src_mv rfl rfl (by first | rfl | simp)) rfl rfl (by first | rfl | simp) h37 fun b35 c36 => ?_
          refine go ?_; intros
          exact k_ln2 _ (Nat.lt_succ_self _) ⟨_, _, _, _, _, h41, rfl, pin, pinh⟩
        replace h41 := itf h41 c
        try rw [c]
        refine go ?_; intros
        exact k_ln2 _ (Nat.lt_succ_self _) ⟨_, _, _, _, _, h41, rfl, pin, pinh⟩
      replace h41 := itf h41 c
      try rw [c]
      refine go ?_; intros
      cases h41
      exact k_cn ⟨_, _, pin, pinh⟩
  rintro t o ⟨b39, c40, pq1, pq2⟩
  refine pinnedQ pq1 pq2 ?_
  refine go ?_; intros
  cases h
  exact r_end
theorem d_impl_RepoPast {G : Gam} (H_impl_RepoOk : Has G c_impl_RepoOk) (H_impl_Repo_version : Has G c_impl_Repo_version) (H_impl_Repo_past : Has G c_impl_Repo_past) (H_impl_greatestFirst : Has G c_impl_greatestFirst) (a0 : Repo) (a1 : Int) (r : (List Int)) (h : gf_impl_RepoPast a0 a1 = some r) : Does G if_impl_RepoPast ks_impl_RepoPast (c_impl_RepoPast.args (a0, a1)) [] (c_impl_RepoPast.ans (a0, a1) r) := by
  refine does_pn (L := [(0, .agg [.ro (List.map (eCommit false) a0.commits), .ro (List.map eHead a0.heads)]), (1, .v (.int .i64 a1))]) (fun bs => pin) fun bs t o => ?_
  show vwp _ ib_impl_RepoPast _ _
  unfold ib_impl_RepoPast
  refine w_ir ?_
  unfold gf_impl_RepoPast at h
  obtain ⟨x2, h3, h⟩ := bnd h
  refine go ?_; intros
  refine c_call (c := c_impl_RepoOk) (a0) H_impl_RepoOk h3 fun ch => ?_
  refine go ?_; intros
  refine s_split rfl (fun c => ?_) (fun c => ?_)
  · replace h := itt h c
    rw [c]
    refine go ?_; intros
    cases h
    exact r_end
  replace h := itf h c
  rw [c]
  obtain ⟨x4, h5, h⟩ := bnd h
  refine go ?_; intros
  refine c_call (c := c_impl_Repo_version) (a0, a1) H_impl_Repo_version h5 fun ch => ?_
  refine go ?_; intros
  refine w_cond rfl (fun c => ?_) (fun c => ?_)
  · replace h := itt h c
    try rw [c]
    refine go ?_; intros
    cases h
    exact r_end
  replace h := itf h c
  try rw [c]
  obtain ⟨x8, h9, h⟩ := bnd h
  refine go ?_; intros
  refine c_call (c := c_impl_Repo_past) (a0, a1) H_impl_Repo_past h9 fun ch => ?_
  obtain ⟨x12, h13, h⟩ := bnd h
  refine go ?_; intros
  refine c_call (c := c_impl_greatestFirst) (x8) H_impl_greatestFirst h13 fun ch => ?_
  refine go ?_; intros
  cases h
  exact r_end
theorem d_laws_FnRepoBent {G : Gam} (H_spec_DrawRepoOk : Has G c_spec_DrawRepoOk) (H_impl_RepoOk : Has G c_impl_RepoOk) (H_spec_RepoOk : Has G c_spec_RepoOk) (H_impl_RepoDrop : Has G c_impl_RepoDrop) (H_impl_RepoAt : Has G c_impl_RepoAt) (H_impl_RepoPast : Has G c_impl_RepoPast) (a0 : (List UInt8)) (g0 : Option Addr) (g1 : Nat) (r : Bool) (h : gf_laws_FnRepoBent a0 = some r) : Does G if_laws_FnRepoBent ks_laws_FnRepoBent (c_laws_FnRepoBent.args (a0, g0, g1)) [] (c_laws_FnRepoBent.ans (a0, g0, g1) r) := by
  refine does_pn (L := [(0, .raw g0 g1 (List.map eU8 a0))]) (fun bs => pin) fun bs t o => ?_
  show vwp _ ib_laws_FnRepoBent _ _
  unfold ib_laws_FnRepoBent
  refine w_ir ?_
  unfold gf_laws_FnRepoBent at h
  refine go ?_; intros
  refine w_cond rfl (fun c => ?_) (fun c => ?_)
  · replace h := itt h (by first | exact c | (have c2 := c; simp only [List.length_map] at c2; exact c2))
    try rw [c]
    refine go ?_; intros
    cases h
    exact r_end
  replace h := itf h (by first | exact c | (have c2 := c; simp only [List.length_map] at c2; exact c2))
  try rw [c]
  refine go ?_; intros
  refine r_frz ?_
  obtain ⟨x1, h2, h⟩ := bnd h
  refine go ?_; intros
  refine c_call (c := c_spec_DrawRepoOk) (a0, g0, g1) H_spec_DrawRepoOk h2 fun ch => ?_
  refine go ?_; intros
  refine c_fz ?_
  obtain ⟨x8, h9, h⟩ := bnd h
  refine go ?_; intros
  refine c_call (c := c_impl_RepoOk) (x1) H_impl_RepoOk h9 fun ch => ?_
  obtain ⟨x10, h11, h⟩ := bnd h
  refine go ?_; intros
  refine c_call (c := c_spec_RepoOk) (x1) H_spec_RepoOk h11 fun ch => ?_
  refine go ?_; intros
  refine w_cond rfl (fun c => ?_) (fun c => ?_)
  · replace h := itt h c
    try rw [c]
    refine go ?_; intros
    cases h
    exact r_end
  replace h := itf h c
  try rw [c]
  obtain ⟨x12, h13, h⟩ := bnd h
  refine go ?_; intros
  refine c_call (c := c_spec_RepoOk) (x1) H_spec_RepoOk h13 fun ch => ?_
  refine go ?_; intros
  refine w_cond rfl (fun c => ?_) (fun c => ?_)
  · replace h := itt h c
    try rw [c]
    obtain ⟨x14, h15, h⟩ := bnd h
    refine go ?_; intros
    refine c_call (c := c_impl_RepoDrop) (x1, (⟨#[109, 97, 105, 110]⟩ : Str)) H_impl_RepoDrop h15 fun ch => ?_
    refine go ?_; intros
    refine s_split rfl (fun c => ?_) (fun c => ?_)
    · replace h := itt h c
      rw [c]
      obtain ⟨x21, h22, h⟩ := bnd h
      refine go ?_; intros
      refine c_call (c := c_impl_RepoAt) (x1, (⟨#[109, 97, 105, 110]⟩ : Str)) H_impl_RepoAt h22 fun ch => ?_
      refine go ?_; intros
      refine s_split rfl (fun c => ?_) (fun c => ?_)
      · replace h := itt h c
        rw [c]
        obtain ⟨x23, h24, h⟩ := bnd h
        refine go ?_; intros
        refine c_call (c := c_impl_RepoPast) (x1, 0) H_impl_RepoPast h24 fun ch => ?_
        refine go ?_; intros
        cases h
        exact r_end
      replace h := itf h c
      rw [c]
      refine go ?_; intros
      cases h
      exact r_end
    replace h := itf h c
    rw [c]
    refine go ?_; intros
    cases h
    exact r_end
  replace h := itf h c
  try rw [c]
  obtain ⟨q27, h108, h⟩ := bnd h
  refine go ?_; intros
  refine w_cut (fun t o => ∃ b29 b30, Pin t (ovr [(3, .ptr 24 b29 210 0 0), (6, .ptr 48 b30 210 0 0)] t) ∧ PinH o (ovh [(24, ⟨b29, 1, 210, true, [[.sl false 3 (List.map (eCommit false) x1.commits), .sl false 2 (List.map eHead x1.heads)]]⟩), (48, ⟨b30, 1, 210, true, [[.sl false 3 (List.map (eCommit false) x1.commits), .sl false 2 (List.map eHead x1.heads)]]⟩)] o)) ?_ ?_
  · refine go ?_; intros
    cases h108
    exact k_cn ⟨_, _, pin, pinh⟩
  rintro t o ⟨b29, b30, pq1, pq2⟩
  refine pinned pq1 pq2 ?_
  obtain ⟨h34, h⟩ := gd h
  refine go ?_; intros
  refine r_app (f := eHead) (xs := ([] : (List Head))) (ys := x1.heads) rfl (src_ro (fun _ => rfl) (fun _ => rfl)) rfl rfl (by first | rfl | simp) h34 fun b32 c33 => ?_
  obtain ⟨h38, h⟩ := gd h
  refine go ?_; intros
  refine r_app (f := eHead) (xs := ([] ++ x1.heads)) (ys := ([(⟨(⟨#[122, 122]⟩ : Str), (x1.commits.length : Int)⟩ : Head)] : (List Head))) rfl (src_mv rfl rfl (by first | rfl | simp)) rfl rfl (by first | rfl | simp) h38 fun b36 c37 => ?_
  obtain ⟨h43, h⟩ := gd h
  refine go ?_; intros
  refine r_app (f := eHead) (xs := ([] : (List Head))) (ys := x1.heads) rfl (src_ro (fun _ => rfl) (fun _ => rfl)) rfl rfl (by first | rfl | simp) h43 fun b41 c42 => ?_
  obtain ⟨x44, h45, h⟩ := bnd h
  refine go ?_; intros
  refine r_iro rfl rfl h45 rfl ?_
  obtain ⟨h49, h⟩ := gd h
  refine go ?_; intros
  refine r_app (f := eHead) (xs := ([] ++ x1.heads)) (ys := ([x44] : (List Head))) rfl (src_mv rfl rfl (by first | rfl | simp)) rfl rfl (by first | rfl | simp) h49 fun b47 c48 => ?_
  obtain ⟨h54, h⟩ := gd h
  refine go ?_; intros
  refine r_app (f := (eCommit false)) (xs := ([] : (List Commit))) (ys := x1.commits) rfl (src_ro (fun _ => rfl) (fun _ => rfl)) rfl rfl (by first | rfl | simp) h54 fun b52 c53 => ?_
  refine go ?_; intros
  refine r_frz ?_
  refine go ?_; intros
  try simp only [take_map_len, take_ent]
  refine go ?_; intros
  refine c_fz (h := (fz_ref (f := (eCommit true)) (g := (eCommit false)) (xs := ([(⟨[(x1.commits.length : Int)], [], (⟨#[97]⟩ : Str)⟩ : Commit)] : (List Commit))) rfl er_Commit (by first | rfl | simp))) ?_
  obtain ⟨h59, h⟩ := gd h
  refine go ?_; intros
  refine r_app (f := (eCommit false)) (xs := ([] ++ x1.commits)) (ys := ([(⟨[(x1.commits.length : Int)], [], (⟨#[97]⟩ : Str)⟩ : Commit)] : (List Commit))) rfl (src_ro (fun _ => rfl) (fun _ => rfl)) rfl rfl (by first | rfl | simp) h59 fun b57 c58 => ?_
  obtain ⟨q60, h109, h⟩ := bnd h
  refine go ?_; intros
  refine w_cut (fun t o => ∃ b62 b63 c64 b65 b66 c67 b68 b69 c70 b71 b72, Pin t (ovr [(3, .ptr 24 b62 210 0 0), (6, .ptr 48 b65 210 0 0), (7, .ptr 56 b68 210 0 0), (8, .ptr 64 b71 210 0 0), (9, .ptr 72 b72 210 0 0)] t) ∧ PinH o (ovh [(24, ⟨b62, 1, 210, true, [[.sl false 3 (List.map (eCommit false) x1.commits), .sl false 2 (List.map eHead x1.heads)]]⟩), (1000769, ent b63 c64 130 (List.map eHead (([] ++ x1.heads) ++ ([(⟨(⟨#[122, 122]⟩ : Str), (x1.commits.length : Int)⟩ : Head)] : (List Head))))), (48, ⟨b65, 1, 210, true, [[.sl false 3 (List.map (eCommit false) x1.commits), .al 1000769 b63 c64 0 (([] ++ x1.heads) ++ ([(⟨(⟨#[122, 122]⟩ : Str), (x1.commits.length : Int)⟩ : Head)] : (List Head))).length 130]]⟩), (1000897, ent b66 c67 130 (List.map eHead (([] ++ x1.heads) ++ ([x44] : (List Head))))), (56, ⟨b68, 1, 210, true, [[.sl false 3 (List.map (eCommit false) x1.commits), .al 1000897 b66 c67 0 (([] ++ x1.heads) ++ ([x44] : (List Head))).length 130]]⟩), (1001024, ent b69 c70 115 (List.map (eCommit false) (([] ++ x1.commits) ++ ([(⟨[(x1.commits.length : Int)], [], (⟨#[97]⟩ : Str)⟩ : Commit)] : (List Commit))))), (64, ⟨b71, 1, 210, true, [[.al 1001024 b69 c70 0 (([] ++ x1.commits) ++ ([(⟨[(x1.commits.length : Int)], [], (⟨#[97]⟩ : Str)⟩ : Commit)] : (List Commit))).length 115, .sl false 2 (List.map eHead x1.heads)]]⟩), (72, ⟨b72, 1, 210, true, [[.sl false 3 (List.map (eCommit false) x1.commits), .sl false 2 (List.map eHead x1.heads)]]⟩)] o)) ?_ ?_
  · refine go ?_; intros
    cases h109
    exact k_cn ⟨_, _, _, _, _, _, _, _, _, _, _, pin, pinh⟩
  rintro t o ⟨b62, b63, c64, b65, b66, c67, b68, b69, c70, b71, b72, pq1, pq2⟩
  refine pinned pq1 pq2 ?_
  obtain ⟨h76, h⟩ := gd h
  refine go ?_; intros
  refine r_app (f := (eCommit false)) (xs := ([] : (List Commit))) (ys := x1.commits) rfl (src_ro (fun _ => rfl) (fun _ => rfl)) rfl rfl (by first | rfl | simp) h76 fun b74 c75 => ?_
  refine go ?_; intros
  refine r_frz ?_
  refine go ?_; intros
  refine c_fz (h := (fz_ref (f := (eCommit true)) (g := (eCommit false)) (xs := ([(⟨[], [], (⟨#[97]⟩ : Str)⟩ : Commit)] : (List Commit))) rfl er_Commit (by first | rfl | simp))) ?_
  obtain ⟨h80, h⟩ := gd h
  refine go ?_; intros
  refine r_app (f := (eCommit false)) (xs := ([] ++ x1.commits)) (ys := ([(⟨[], [], (⟨#[97]⟩ : Str)⟩ : Commit)] : (List Commit))) rfl (src_ro (fun _ => rfl) (fun _ => rfl)) rfl rfl (by first | rfl | simp) h80 fun b78 c79 => ?_
  obtain ⟨q82, h110, h⟩ := bnd h
  refine go ?_; intros
  refine w_cut (fun t o => ∃ b83 c84 b85 b86 c87 b88 b89 c90 b91 b92 c93 b94 b95 c96 b97, Pin t (ovr [(6, .ptr 48 b85 210 0 0), (7, .ptr 56 b88 210 0 0), (8, .ptr 64 b91 210 0 0), (9, .ptr 72 b94 210 0 0), (10, .ptr 80 b97 210 0 0)] t) ∧ PinH o (ovh [(1000769, ent b83 c84 130 (List.map eHead (([] ++ x1.heads) ++ ([(⟨(⟨#[122, 122]⟩ : Str), (x1.commits.length : Int)⟩ : Head)] : (List Head))))), (48, ⟨b85, 1, 210, true, [[.sl false 3 (List.map (eCommit false) x1.commits), .al 1000769 b83 c84 0 (([] ++ x1.heads) ++ ([(⟨(⟨#[122, 122]⟩ : Str), (x1.commits.length : Int)⟩ : Head)] : (List Head))).length 130]]⟩), (1000897, ent b86 c87 130 (List.map eHead (([] ++ x1.heads) ++ ([x44] : (List Head))))), (56, ⟨b88, 1, 210, true, [[.sl false 3 (List.map (eCommit false) x1.commits), .al 1000897 b86 c87 0 (([] ++ x1.heads) ++ ([x44] : (List Head))).length 130]]⟩), (1001024, ent b89 c90 115 (List.map (eCommit false) (([] ++ x1.commits) ++ ([(⟨[(x1.commits.length : Int)], [], (⟨#[97]⟩ : Str)⟩ : Commit)] : (List Commit))))), (64, ⟨b91, 1, 210, true, [[.al 1001024 b89 c90 0 (([] ++ x1.commits) ++ ([(⟨[(x1.commits.length : Int)], [], (⟨#[97]⟩ : Str)⟩ : Commit)] : (List Commit))).length 115, .sl false 2 (List.map eHead x1.heads)]]⟩), (1001152, ent b92 c93 115 (List.map (eCommit false) (([] ++ x1.commits) ++ ([(⟨[], [], (⟨#[97]⟩ : Str)⟩ : Commit)] : (List Commit))))), (72, ⟨b94, 1, 210, true, [[.al 1001152 b92 c93 0 (([] ++ x1.commits) ++ ([(⟨[], [], (⟨#[97]⟩ : Str)⟩ : Commit)] : (List Commit))).length 115, .sl false 2 (List.map eHead x1.heads)]]⟩), (1001281, ent b95 c96 130 (List.map eHead [])), (80, ⟨b97, 1, 210, true, [[.sl false 3 (List.map (eCommit false) x1.commits), .al 1001281 b95 c96 0 ([] : List Head).length 130]]⟩)] o)) ?_ ?_
  · refine go ?_; intros
    cases h110
    exact k_cn ⟨_, _, _, _, _, _, _, _, _, _, _, _, _, _, _, pin, pinh⟩
  rintro t o ⟨b83, c84, b85, b86, c87, b88, b89, c90, b91, b92, c93, b94, b95, c96, b97, pq1, pq2⟩
  refine pinned pq1 pq2 ?_
  obtain ⟨x98, h99, h⟩ := bnd h
  refine go ?_; intros
  refine c_call (c := c_impl_RepoOk) ((⟨x1.commits, (([] ++ x1.heads) ++ ([(⟨(⟨#[122, 122]⟩ : Str), (x1.commits.length : Int)⟩ : Head)] : (List Head)))⟩ : Repo)) H_impl_RepoOk h99 fun ch => ?_
  refine go ?_; intros
  refine s_split rfl (fun c => ?_) (fun c => ?_)
  · replace h := itt h c
    rw [c]
    obtain ⟨x100, h101, h⟩ := bnd h
    refine go ?_; intros
    refine c_call (c := c_impl_RepoOk) ((⟨x1.commits, (([] ++ x1.heads) ++ ([x44] : (List Head)))⟩ : Repo)) H_impl_RepoOk h101 fun ch => ?_
    refine go ?_; intros
    refine s_split rfl (fun c => ?_) (fun c => ?_)
    · replace h := itt h c
      rw [c]
      obtain ⟨x102, h103, h⟩ := bnd h
      refine go ?_; intros
      refine c_call (c := c_impl_RepoOk) ((⟨(([] ++ x1.commits) ++ ([(⟨[(x1.commits.length : Int)], [], (⟨#[97]⟩ : Str)⟩ : Commit)] : (List Commit))), x1.heads⟩ : Repo)) H_impl_RepoOk h103 fun ch => ?_
      refine go ?_; intros
      refine s_split rfl (fun c => ?_) (fun c => ?_)
      · replace h := itt h c
        rw [c]
        obtain ⟨x104, h105, h⟩ := bnd h
        refine go ?_; intros
        refine c_call (c := c_impl_RepoOk) ((⟨(([] ++ x1.commits) ++ ([(⟨[], [], (⟨#[97]⟩ : Str)⟩ : Commit)] : (List Commit))), x1.heads⟩ : Repo)) H_impl_RepoOk h105 fun ch => ?_
        refine go ?_; intros
        refine s_split rfl (fun c => ?_) (fun c => ?_)
        · replace h := itt h c
          rw [c]
          obtain ⟨x106, h107, h⟩ := bnd h
          refine go ?_; intros
          refine c_call (c := c_impl_RepoOk) ((⟨x1.commits, []⟩ : Repo)) H_impl_RepoOk h107 fun ch => ?_
          refine go ?_; intros
          cases h
          exact r_end
        replace h := itf h c
        rw [c]
        refine go ?_; intros
        cases h
        exact r_end
      replace h := itf h c
      rw [c]
      refine go ?_; intros
      cases h
      exact r_end
    replace h := itf h c
    rw [c]
    refine go ?_; intros
    cases h
    exact r_end
  replace h := itf h c
  rw [c]
  refine go ?_; intros
  cases h
  exact r_end
end Go.Proofs.AM
