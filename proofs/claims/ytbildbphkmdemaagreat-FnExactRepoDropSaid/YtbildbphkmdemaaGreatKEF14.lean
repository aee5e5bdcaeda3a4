/- A part of the proofs of this seat's statements (KEF14): lemmas on an abstract machine for the program's functions. Conditions: none. -/
import Derived.Test.YtbildbphkmdemaaGreatKED
set_option linter.unusedVariables false
set_option linter.unusedSimpArgs false
set_option maxRecDepth 100000
set_option maxHeartbeats 4000000
namespace Go.Proofs.AM
attribute [local irreducible] vwp vstps vstpLs vstp vdo vret kseq kblk kloop kend kcut kloop2 frzV renV shutK pfzV trnV unrV
theorem d_laws_heldHeadS {G : Gam} (H_laws_markText : Has G c_laws_markText) (a0 : (List Head)) (a1 : Int) (r : Int) (h : gf_laws_heldHeadS a0 a1 = some r) : Does G if_laws_heldHeadS ks_laws_heldHeadS (c_laws_heldHeadS.args (a0, a1)) [] (c_laws_heldHeadS.ans (a0, a1) r) := by
  refine does_pn (L := [(0, .ro (List.map eHead a0)), (1, .v (.int .i64 a1))]) (fun bs => pin) fun bs t o => ?_
  show vwp _ ib_laws_heldHeadS _ _
  unfold ib_laws_heldHeadS
  refine w_ir ?_
  unfold gf_laws_heldHeadS at h
  obtain ⟨hf26, h⟩ := gd h
  obtain ⟨q15, h30, h⟩ := bnd h
  refine go ?_; intros
  refine w_last (fun t o => ∃ q15_, q15 = .inr q15_ ∧ Pin t (ovr [(1, .v (.int .i64 q15_))] t) ∧ PinH o (ovh [] o)) ?_ ?_
  · refine w_loop2 (fun n t o => ∃ l20 k18 v16 , gl_laws_heldHeadS_1 l20 k18 v16 = some q15 ∧ n = l20.length ∧ (a0).drop k18 = l20 ∧ Pin t (ovr [(0, .ro (List.map eHead a0)), (1, .v (.int .i64 v16)), (5, .v (.int .i64 (k18 : Int)))] t) ∧ PinH o (ovh [] o)) _ ⟨_, _, _, h30, rfl, rfl, pin, pinh⟩ ?_
    rintro n t o ⟨l20, k18, v16, h30, rfl, hd21, pq1, pq2⟩
    refine pinned pq1 pq2 ?_
    cases l20 with
    | nil =>
      have hge23 := drop_ge hd21
      rw [gl_laws_heldHeadS_1] at h30
      refine go ?_; intros
      rw [hge23]
      refine go ?_; intros
      cases h30
      exact k_cn ⟨_, rfl, pin, pinh⟩
    | cons x19 l20 =>
      have hlt22 := drop_lt hd21
      have hx24 := drop_ix hd21
      have hw25 := drop_wr hd21 hf26
      rw [gl_laws_heldHeadS_1] at h30
      refine go ?_; intros
      rw [hlt22]
      refine go ?_; intros
      refine r_iro rfl rfl hx24 rfl ?_
      obtain ⟨x27, h28, h30⟩ := bnd h30
      refine go ?_; intros
      refine c_call (c := c_laws_markText) (v16) H_laws_markText h28 fun ch => ?_
      refine go ?_; intros
      refine w_cond rfl (fun c => ?_) (fun c => ?_)
      · replace h30 := itt h30 c
        try rw [c]
        refine go ?_; intros
        cases h30
        replace h : some _ = some _ := h
        cases h
        exact r_end
      replace h30 := itf h30 c
      try rw [c]
      refine go ?_; intros
      refine r_iro rfl rfl hx24 rfl ?_
      refine go ?_; intros
      refine w_cond rfl (fun c => ?_) (fun c => ?_)
      · replace h30 := itt h30 c
        try rw [c]
        refine go ?_; intros
        cases h30
        replace h : some _ = some _ := h
        cases h
        exact r_end
      replace h30 := itf h30 c
      try rw [c]
      refine go ?_; intros
      rw [hw25]
      exact k_ln2 _ (Nat.lt_succ_self _) ⟨_, _, _, h30, rfl, drop_next hd21, pin, pinh⟩
  rintro t o ⟨q15, rfl, pq1, pq2⟩
  refine pinnedQ pq1 pq2 ?_
  refine go ?_; intros
  cases h
  exact r_end
theorem d_laws_szRepo {G : Gam} (H_laws_szCommitS : Has G c_laws_szCommitS) (H_laws_szHeadS : Has G c_laws_szHeadS) (a0 : Repo) (a1 : Int) (r : Int) (h : gf_laws_szRepo a0 a1 = some r) : Does G if_laws_szRepo ks_laws_szRepo (c_laws_szRepo.args (a0, a1)) [] (c_laws_szRepo.ans (a0, a1) r) := by
  refine does_pn (L := [(0, .agg [.ro (List.map (eCommit false) a0.commits), .ro (List.map eHead a0.heads)]), (1, .v (.int .i64 a1))]) (fun bs => pin) fun bs t o => ?_
  show vwp _ ib_laws_szRepo _ _
  unfold ib_laws_szRepo
  refine w_ir ?_
  unfold gf_laws_szRepo at h
  obtain ⟨x2, h3, h⟩ := bnd h
  refine go ?_; intros
  refine c_call (c := c_laws_szCommitS) (a0.commits, a1) H_laws_szCommitS h3 fun ch => ?_
  refine go ?_; intros
  refine w_cond rfl (fun c => ?_) (fun c => ?_)
  · replace h := itt h c
    try rw [c]
    refine go ?_; intros
    cases h
    exact r_end
  replace h := itf h c
  try rw [c]
  obtain ⟨x4, h5, h⟩ := bnd h
  refine go ?_; intros
  refine c_call (c := c_laws_szHeadS) (a0.heads, x2) H_laws_szHeadS h5 fun ch => ?_
  refine go ?_; intros
  refine w_cond rfl (fun c => ?_) (fun c => ?_)
  · replace h := itt h c
    try rw [c]
    refine go ?_; intros
    cases h
    exact r_end
  replace h := itf h c
  try rw [c]
  refine go ?_; intros
  cases h
  exact r_end
theorem d_laws_toRepo {G : Gam} (H_laws_toCommitS : Has G c_laws_toCommitS) (H_laws_toHeadS : Has G c_laws_toHeadS) (a0 : Repo) (r : Repo) (h : gf_laws_toRepo a0 = some r) : Does G if_laws_toRepo ks_laws_toRepo (c_laws_toRepo.args (a0)) [] (c_laws_toRepo.ans (a0) r) := by
  refine does_pn (L := [(0, .agg [.ro (List.map (eCommit false) a0.commits), .ro (List.map eHead a0.heads)])]) (fun bs => pin) fun bs t o => ?_
  show vwp _ ib_laws_toRepo _ _
  unfold ib_laws_toRepo
  refine w_ir ?_
  unfold gf_laws_toRepo at h
  obtain ⟨x4, h5, h⟩ := bnd h
  refine go ?_; intros
  refine c_call (c := c_laws_toCommitS) (a0.commits) H_laws_toCommitS h5 fun ch => ?_
  obtain ⟨x8, h9, h⟩ := bnd h
  refine go ?_; intros
  refine c_call (c := c_laws_toHeadS) (a0.heads) H_laws_toHeadS h9 fun ch => ?_
  refine go ?_; intros
  cases h
  exact r_end
theorem d_laws_eqRepo {G : Gam} (H_laws_eqCommitS : Has G c_laws_eqCommitS) (H_laws_eqHeadS : Has G c_laws_eqHeadS) (a0 : Repo) (a1 : Repo) (r : Bool) (h : gf_laws_eqRepo a0 a1 = some r) : Does G if_laws_eqRepo ks_laws_eqRepo (c_laws_eqRepo.args (a0, a1)) [] (c_laws_eqRepo.ans (a0, a1) r) := by
  refine does_pn (L := [(0, .agg [.ro (List.map (eCommit false) a0.commits), .ro (List.map eHead a0.heads)]), (1, .agg [.ro (List.map (eCommit false) a1.commits), .ro (List.map eHead a1.heads)])]) (fun bs => pin) fun bs t o => ?_
  show vwp _ ib_laws_eqRepo _ _
  unfold ib_laws_eqRepo
  refine w_ir ?_
  unfold gf_laws_eqRepo at h
  obtain ⟨x3, h4, h⟩ := bnd h
  refine go ?_; intros
  refine c_call (c := c_laws_eqCommitS) (a0.commits, a1.commits) H_laws_eqCommitS h4 fun ch => ?_
  refine go ?_; intros
  refine w_cond rfl (fun c => ?_) (fun c => ?_)
  · replace h := itt h c
    try rw [c]
    refine go ?_; intros
    cases h
    exact r_end
  replace h := itf h c
  try rw [c]
  obtain ⟨x5, h6, h⟩ := bnd h
  refine go ?_; intros
  refine c_call (c := c_laws_eqHeadS) (a0.heads, a1.heads) H_laws_eqHeadS h6 fun ch => ?_
  refine go ?_; intros
  refine w_cond rfl (fun c => ?_) (fun c => ?_)
  · replace h := itt h c
    try rw [c]
    refine go ?_; intros
    cases h
    exact r_end
  replace h := itf h c
  try rw [c]
  refine go ?_; intros
  cases h
  exact r_end
theorem d_laws_markRepo {G : Gam} (H_laws_markCommitS : Has G c_laws_markCommitS) (H_laws_markHeadS : Has G c_laws_markHeadS) (a0 : Repo) (a1 : Int) (r : (Int × Repo)) (h : gf_laws_markRepo a0 a1 = some r) : Does G if_laws_markRepo ks_laws_markRepo (c_laws_markRepo.args (a0, a1)) (c_laws_markRepo.ins (a0, a1)) (c_laws_markRepo.ans (a0, a1) r) := by
  refine does_pg (L := fun bs => [(0, .agg [.ref 0 (bs 0).1 (bs 0).2 0 a0.commits.length 115, .ref 8 (bs 1).1 (bs 1).2 0 a0.heads.length 130]), (1, .v (.int .i64 a1))]) (H := fun bs => [(0, ent (bs 0).1 (bs 0).2 115 (List.map (eCommit true) a0.commits)), (8, ent (bs 1).1 (bs 1).2 130 (List.map eHead a0.heads))]) (fun bs => pin) (fun bs => pinh) fun bs t o => ?_
  show vwp _ ib_laws_markRepo _ _
  unfold ib_laws_markRepo
  refine w_ir ?_
  unfold gf_laws_markRepo at h
  obtain ⟨x2, h3, h⟩ := bnd h
  refine go ?_; intros
  have L3 := l_laws_markCommitS h3; (try dsimp only at L3); refine c_callg (c := c_laws_markCommitS) (a0.commits, a1) H_laws_markCommitS h3 fun ch => ?_
  obtain ⟨x4, h5, h⟩ := bnd h
  refine go ?_; intros
  have L5 := l_laws_markHeadS h5; (try dsimp only at L5); refine c_callg (c := c_laws_markHeadS) (a0.heads, x2.1) H_laws_markHeadS h5 fun ch => ?_
  refine go ?_; intros
  cases h
  exact r_endg
theorem d_laws_heldRepo {G : Gam} (H_laws_heldCommitS : Has G c_laws_heldCommitS) (H_laws_heldHeadS : Has G c_laws_heldHeadS) (a0 : Repo) (a1 : Int) (r : Int) (h : gf_laws_heldRepo a0 a1 = some r) : Does G if_laws_heldRepo ks_laws_heldRepo (c_laws_heldRepo.args (a0, a1)) [] (c_laws_heldRepo.ans (a0, a1) r) := by
  refine does_pn (L := [(0, .agg [.ro (List.map (eCommit false) a0.commits), .ro (List.map eHead a0.heads)]), (1, .v (.int .i64 a1))]) (fun bs => pin) fun bs t o => ?_
  show vwp _ ib_laws_heldRepo _ _
  unfold ib_laws_heldRepo
  refine w_ir ?_
  unfold gf_laws_heldRepo at h
  obtain ⟨x2, h3, h⟩ := bnd h
  refine go ?_; intros
  refine c_call (c := c_laws_heldCommitS) (a0.commits, a1) H_laws_heldCommitS h3 fun ch => ?_
  refine go ?_; intros
  refine w_cond rfl (fun c => ?_) (fun c => ?_)
  · replace h := itt h c
    try rw [c]
    refine go ?_; intros
    cases h
    exact r_end
  replace h := itf h c
  try rw [c]
  obtain ⟨x4, h5, h⟩ := bnd h
  refine go ?_; intros
  refine c_call (c := c_laws_heldHeadS) (a0.heads, x2) H_laws_heldHeadS h5 fun ch => ?_
  refine go ?_; intros
  refine w_cond rfl (fun c => ?_) (fun c => ?_)
  · replace h := itt h c
    try rw [c]
    refine go ?_; intros
    cases h
    exact r_end
  replace h := itf h c
  try rw [c]
  refine go ?_; intros
  cases h
  exact r_end
theorem d_slices_Delete_impl_Head_impl_Head {G : Gam} (a0 : (List Head)) (a1 : Int) (a2 : Int) (r : (List Head)) (h : gf_slices_Delete_impl_Head_impl_Head a0 a1 a2 = some r) : Does G if_slices_Delete_impl_Head_impl_Head ks_slices_Delete_impl_Head_impl_Head (c_slices_Delete_impl_Head_impl_Head.args (a0, a1, a2)) (c_slices_Delete_impl_Head_impl_Head.ins (a0, a1, a2)) (c_slices_Delete_impl_Head_impl_Head.ans (a0, a1, a2) r) := by
  refine does_pg (L := fun bs => [(0, .ref 0 (bs 0).1 (bs 0).2 0 a0.length 130), (1, .v (.int .i64 a1)), (2, .v (.int .i64 a2))]) (H := fun bs => [(0, ent (bs 0).1 (bs 0).2 130 (List.map eHead a0))]) (fun bs => pin) (fun bs => pinh) fun bs t o => ?_
  show vwp _ ib_slices_Delete_impl_Head_impl_Head _ _
  unfold ib_slices_Delete_impl_Head_impl_Head
  refine w_ir ?_
  unfold gf_slices_Delete_impl_Head_impl_Head at h
  obtain ⟨q, hs, h⟩ := bnd h
  obtain ⟨s0, s1, s2⟩ := slc_le hs
  refine go ?_; intros
  refine r_sl3 rfl rfl rfl rfl rfl hs rfl ?_
  refine go ?_; intros
  refine w_cond rfl (fun c => ?_) (fun c => ?_)
  · replace h := itt h c
    try rw [c]
    refine go ?_; intros
    cases h
    exact r_endg
  replace h := itf h c
  try rw [c]
  refine go ?_; intros
  refine r_slv0 (j := a1) rfl rfl rfl rfl s0 (by omega) ?_
  refine go ?_; intros
  refine r_slv1 (j := a2) rfl rfl rfl rfl (by omega) s2 ?_
  refine go ?_; intros
  refine r_ain (f := eHead) (xs := a0) (ys := a0.drop a2.toNat) (i := a1.toNat) (j := a2.toNat) (m := a0.length - a2.toNat) rfl rfl rfl (del_ys a0) (by omega) (by omega) (fun _ => rfl) ?_
  refine go ?_; intros
  refine r_slx2 (i := ((a1.toNat + (a0.length - a2.toNat) : Nat) : Int)) (j := (a0.length : Int)) (rows := List.map eHead (a0.take a1.toNat ++ a0.drop a2.toNat ++ a0.drop (a1.toNat + (a0.length - a2.toNat)))) rfl rfl rfl rfl rfl (by omega) (by omega) (by simp; omega) ?_
  refine go ?_; intros
  refine r_clr (f := eHead) (xs := a0.take a1.toNat ++ a0.drop a2.toNat ++ a0.drop (a1.toNat + (a0.length - a2.toNat))) (z0 := (⟨⟨#[]⟩, 0⟩ : Head)) rfl rfl rfl (by simp; omega) (fun _ => rfl) ?_
  refine go ?_; intros
  refine r_trn ?_
  refine go ?_; intros
  refine r_trv (f := eHead) (ys := a0.take a1.toNat ++ a0.drop a2.toNat) (xs := del_xs a0 a1 a2 (⟨⟨#[]⟩, 0⟩ : Head)) rfl rfl (del_eq s0 s1 s2) (del_le s0 s1 s2) ?_
  refine go ?_; intros
  cases h
  rw [del_len s0 s1 s2]
  exact r_endg
theorem d_impl_RepoDrop {G : Gam} (H_impl_RepoOk : Has G c_impl_RepoOk) (H_impl_cloneRepo : Has G c_impl_cloneRepo) (H_impl_Repo_head : Has G c_impl_Repo_head) (H_slices_Delete_impl_Head_impl_Head : Has G c_slices_Delete_impl_Head_impl_Head) (a0 : Repo) (a1 : Str) (r : (Repo × Int)) (h : gf_impl_RepoDrop a0 a1 = some r) : Does G if_impl_RepoDrop ks_impl_RepoDrop (c_impl_RepoDrop.args (a0, a1)) [] (c_impl_RepoDrop.ans (a0, a1) r) := by
  refine does_pn (L := [(0, .agg [.ro (List.map (eCommit false) a0.commits), .ro (List.map eHead a0.heads)]), (1, .v (.string a1))]) (fun bs => pin) fun bs t o => ?_
  show vwp _ ib_impl_RepoDrop _ _
  unfold ib_impl_RepoDrop
  refine w_ir ?_
  unfold gf_impl_RepoDrop at h
  obtain ⟨x3, h4, h⟩ := bnd h
  refine go ?_; intros
  refine c_call (c := c_impl_RepoOk) (a0) H_impl_RepoOk h4 fun ch => ?_
  refine go ?_; intros
  refine w_cond rfl (fun c => ?_) (fun c => ?_)
  · replace h := itt h c
    try rw [c]
    refine go ?_; intros
    cases h
    exact r_end
  replace h := itf h c
  try rw [c]
  obtain ⟨q5, h36, h⟩ := bnd h
  refine go ?_; intros
  refine w_cut (fun t o => ∃ b13 b14 c15 b16 c17 b18 b20 c21 b23 c24 b25, Pin t (ovr [(1, .v (.string a1)), (2, .ptr 16 b13 210 0 0), (4, .ptr 32 b18 210 0 0), (6, .ptr 48 b25 210 0 0)] t) ∧ PinH o (ovh [(16, ⟨b13, 1, 210, true, [[.sl false 3 (List.map (eCommit false) a0.commits), .sl false 2 (List.map eHead a0.heads)]]⟩), (1000512, ent b14 c15 115 (List.map (eCommit true) [])), (1000513, ent b16 c17 130 (List.map eHead [])), (32, ⟨b18, 1, 210, true, [[.al 1000512 b14 c15 0 ([] : List Commit).length 115, .al 1000513 b16 c17 0 ([] : List Head).length 130]]⟩), (1000768, ent b20 c21 115 (List.map (eCommit true) q5.1)), (1000769, ent b23 c24 130 (List.map eHead q5.2)), (48, ⟨b25, 1, 210, true, [[.al 1000768 b20 c21 0 q5.1.length 115, .al 1000769 b23 c24 0 q5.2.length 130]]⟩)] o)) ?_ ?_
  · obtain ⟨x6, h7, h36⟩ := bnd h36
    refine go ?_; intros
    refine c_call (c := c_impl_cloneRepo) (a0) H_impl_cloneRepo h7 fun ch => ?_
    refine go ?_; intros
    cases h36
    exact k_cn ⟨_, _, _, _, _, _, _, _, _, _, _, pin, pinh⟩
  rintro t o ⟨b13, b14, c15, b16, c17, b18, b20, c21, b23, c24, b25, pq1, pq2⟩
  refine pinned pq1 pq2 ?_
  obtain ⟨x26, h27, h⟩ := bnd h
  refine go ?_; intros
  refine c_call (c := c_impl_Repo_head) (a0, a1) H_impl_Repo_head h27 fun ch => ?_
  refine go ?_; intros
  refine w_cond rfl (fun c => ?_) (fun c => ?_)
  · replace h := itt h c
    try rw [c]
    refine go ?_; intros
    cases h
    exact r_end
  replace h := itf h c
  try rw [c]
  refine go ?_; intros
  refine w_cond rfl (fun c => ?_) (fun c => ?_)
  · replace h := itt h (by first | exact c | (have c2 := c; simp only [List.length_map] at c2; exact c2))
    try rw [c]
    refine go ?_; intros
    cases h
    exact r_end
  replace h := itf h (by first | exact c | (have c2 := c; simp only [List.length_map] at c2; exact c2))
  try rw [c]
  obtain ⟨x29, h30, h⟩ := bnd h
  refine go ?_; intros
  refine c_callg (c := c_slices_Delete_impl_Head_impl_Head) (q5.2, x26, (IntKind.i64.wrap (x26 + 1))) H_slices_Delete_impl_Head_impl_Head h30 fun ch => ?_
  obtain ⟨h35, h⟩ := gd h
  refine go ?_; intros
  refine r_app (f := eHead) (xs := ([] : (List Head))) (ys := x29) rfl (src_cp (f := eHead) rfl (by first | rfl | simp) (fun _ => rfl)) rfl rfl (by first | rfl | simp) h35 fun b33 c34 => ?_
  refine go ?_; intros
  cases h
  exact r_end
theorem d_spec_RepoDrop {G : Gam} (H_spec_RepoOk : Has G c_spec_RepoOk) (H_spec_l7Copy : Has G c_spec_l7Copy) (H_spec_l7Head : Has G c_spec_l7Head) (a0 : Repo) (a1 : Str) (r : (Repo × Int)) (h : gf_spec_RepoDrop a0 a1 = some r) : Does G if_spec_RepoDrop ks_spec_RepoDrop (c_spec_RepoDrop.args (a0, a1)) [] (c_spec_RepoDrop.ans (a0, a1) r) := by
  refine does_pn (L := [(0, .agg [.ro (List.map (eCommit false) a0.commits), .ro (List.map eHead a0.heads)]), (1, .v (.string a1))]) (fun bs => pin) fun bs t o => ?_
  show vwp _ ib_spec_RepoDrop _ _
  unfold ib_spec_RepoDrop
  refine w_ir ?_
  unfold gf_spec_RepoDrop at h
  obtain ⟨x3, h4, h⟩ := bnd h
  refine go ?_; intros
  refine c_call (c := c_spec_RepoOk) (a0) H_spec_RepoOk h4 fun ch => ?_
  refine go ?_; intros
  refine w_cond rfl (fun c => ?_) (fun c => ?_)
  · replace h := itt h c
    try rw [c]
    refine go ?_; intros
    cases h
    exact r_end
  replace h := itf h c
  try rw [c]
  obtain ⟨q5, h33, h⟩ := bnd h
  refine go ?_; intros
  refine w_cut (fun t o => ∃ b13 b14 c15 b16 c17 b18 b20 c21 b23 c24 b25, Pin t (ovr [(1, .v (.string a1)), (2, .ptr 16 b13 210 0 0), (4, .ptr 32 b18 210 0 0), (6, .ptr 48 b25 210 0 0)] t) ∧ PinH o (ovh [(16, ⟨b13, 1, 210, true, [[.sl false 3 (List.map (eCommit false) a0.commits), .sl false 2 (List.map eHead a0.heads)]]⟩), (1000512, ent b14 c15 115 (List.map (eCommit true) [])), (1000513, ent b16 c17 130 (List.map eHead [])), (32, ⟨b18, 1, 210, true, [[.al 1000512 b14 c15 0 ([] : List Commit).length 115, .al 1000513 b16 c17 0 ([] : List Head).length 130]]⟩), (1000768, ent b20 c21 115 (List.map (eCommit true) q5.1)), (1000769, ent b23 c24 130 (List.map eHead q5.2)), (48, ⟨b25, 1, 210, true, [[.al 1000768 b20 c21 0 q5.1.length 115, .al 1000769 b23 c24 0 q5.2.length 130]]⟩)] o)) ?_ ?_
  · obtain ⟨x6, h7, h33⟩ := bnd h33
    refine go ?_; intros
    refine c_call (c := c_spec_l7Copy) (a0) H_spec_l7Copy h7 fun ch => ?_
    refine go ?_; intros
    cases h33
    exact k_cn ⟨_, _, _, _, _, _, _, _, _, _, _, pin, pinh⟩
  rintro t o ⟨b13, b14, c15, b16, c17, b18, b20, c21, b23, c24, b25, pq1, pq2⟩
  refine pinned pq1 pq2 ?_
  obtain ⟨x26, h27, h⟩ := bnd h
  refine go ?_; intros
  refine c_call (c := c_spec_l7Head) (a0, a1) H_spec_l7Head h27 fun ch => ?_
  refine go ?_; intros
  refine w_cond rfl (fun c => ?_) (fun c => ?_)
  · replace h := itt h c
    try rw [c]
    refine go ?_; intros
    cases h
    exact r_end
  replace h := itf h c
  try rw [c]
  refine go ?_; intros
  refine w_cond rfl (fun c => ?_) (fun c => ?_)
  · replace h := itt h (by first | exact c | (have c2 := c; simp only [List.length_map] at c2; exact c2))
    try rw [c]
    refine go ?_; intros
    cases h
    exact r_end
  replace h := itf h (by first | exact c | (have c2 := c; simp only [List.length_map] at c2; exact c2))
  try rw [c]
  obtain ⟨x28, h29, h⟩ := bnd h
  refine go ?_; intros
  refine r_slr (xs := q5.2) h29 rfl rfl rfl rfl (by first | rfl | simp) ?_
  obtain ⟨x30, h31, h⟩ := bnd h
  refine go ?_; intros
  refine r_slw (xs := q5.2) h31 rfl rfl rfl rfl (by first | rfl | simp) ?_
  refine go ?_; intros
  refine r_trn ?_
  obtain ⟨h32, h⟩ := gd h
  refine go ?_; intros
  refine r_ainv (f := eHead) (xs := q5.2) h29 h31 h32 rfl rfl rfl (fun _ => rfl) ?_
  refine go ?_; intros
  refine r_trv (f := eHead) (xs := (x28 ++ x30 ++ q5.2.drop (x28.length + x30.length))) (ys := (x28 ++ x30)) rfl rfl tk_eq tk_le ?_
  refine go ?_; intros
  cases h
  exact r_end
theorem d_laws_FnExactRepoDrop {G : Gam} (H_laws_szRepo : Has G c_laws_szRepo) (H_laws_toRepo : Has G c_laws_toRepo) (H_spec_RepoDrop : Has G c_spec_RepoDrop) (H_impl_RepoDrop : Has G c_impl_RepoDrop) (H_laws_eqRepo : Has G c_laws_eqRepo) (H_laws_markRepo : Has G c_laws_markRepo) (H_laws_heldRepo : Has G c_laws_heldRepo) (a0 : Repo) (a1 : Str) (r : Bool) (h : gf_laws_FnExactRepoDrop a0 a1 = some r) : Does G if_laws_FnExactRepoDrop ks_laws_FnExactRepoDrop (c_laws_FnExactRepoDrop.args (a0, a1)) [] (c_laws_FnExactRepoDrop.ans (a0, a1) r) := by
  refine does_pn (L := [(0, .agg [.ro (List.map (eCommit false) a0.commits), .ro (List.map eHead a0.heads)]), (1, .v (.string a1))]) (fun bs => pin) fun bs t o => ?_
  show vwp _ ib_laws_FnExactRepoDrop _ _
  unfold ib_laws_FnExactRepoDrop
  refine w_ir ?_
  unfold gf_laws_FnExactRepoDrop at h
  refine go ?_; intros
  refine w_cond rfl (fun c => ?_) (fun c => ?_)
  · replace h := itt h c
    try rw [c]
    refine go ?_; intros
    cases h
    exact r_end
  replace h := itf h c
  try rw [c]
  obtain ⟨x2, h3, h⟩ := bnd h
  refine go ?_; intros
  refine c_call (c := c_laws_szRepo) (a0, 1048576) H_laws_szRepo h3 fun ch => ?_
  refine go ?_; intros
  refine w_cond rfl (fun c => ?_) (fun c => ?_)
  · replace h := itt h c
    try rw [c]
    refine go ?_; intros
    cases h
    exact r_end
  replace h := itf h c
  try rw [c]
  obtain ⟨q4, h96, h⟩ := bnd h
  refine go ?_; intros
  refine w_cut (fun t o => ∃ b19 b21 c22 b24 c25 b26, Pin t (ovr [(1, .v (.string a1)), (2, .ptr 16 b19 466 0 0), (6, .ptr 48 b26 210 0 0), (7, .v (.int .i64 q4.1))] t) ∧ PinH o (ovh [(16, ⟨b19, 1, 466, true, [[.sl false 3 (List.map (eCommit false) a0.commits), .sl false 2 (List.map eHead a0.heads)]]⟩), (1000768, ent b21 c22 115 (List.map (eCommit true) q4.2.1)), (1000769, ent b24 c25 130 (List.map eHead q4.2.2)), (48, ⟨b26, 1, 210, true, [[.al 1000768 b21 c22 0 q4.2.1.length 115, .al 1000769 b24 c25 0 q4.2.2.length 130]]⟩)] o)) ?_ ?_
  · obtain ⟨x5, h6, h96⟩ := bnd h96
    refine go ?_; intros
    refine c_call (c := c_laws_toRepo) (a0) H_laws_toRepo h6 fun ch => ?_
    obtain ⟨x11, h12, h96⟩ := bnd h96
    refine go ?_; intros
    refine c_call (c := c_spec_RepoDrop) (x5, a1) H_spec_RepoDrop h12 fun ch => ?_
    refine go ?_; intros
    cases h96
    exact k_cn ⟨_, _, _, _, _, _, pin, pinh⟩
  rintro t o ⟨b19, b21, c22, b24, c25, b26, pq1, pq2⟩
  refine pinned pq1 pq2 ?_
  obtain ⟨x27, h28, h⟩ := bnd h
  refine go ?_; intros
  refine c_call (c := c_laws_toRepo) (a0) H_laws_toRepo h28 fun ch => ?_
  obtain ⟨q34, h97, h⟩ := bnd h
  refine go ?_; intros
  refine w_cut (fun t o => ∃ b43 b44 c45 b46 c47 b48 b49 c50 b51 c52 b53 b55 c56 b58 c59 b60, Pin t (ovr [(1, .v (.string a1)), (2, .ptr 16 b43 466 0 0), (6, .ptr 48 b48 210 0 0), (7, .v (.int .i64 q4.1)), (8, .ptr 64 b53 210 0 0), (9, .ptr 72 b60 210 0 0), (10, .v (.int .i64 q34.1))] t) ∧ PinH o (ovh [(16, ⟨b43, 1, 466, true, [[.sl false 3 (List.map (eCommit false) a0.commits), .sl false 2 (List.map eHead a0.heads)]]⟩), (1000768, ent b44 c45 115 (List.map (eCommit true) q4.2.1)), (1000769, ent b46 c47 130 (List.map eHead q4.2.2)), (48, ⟨b48, 1, 210, true, [[.al 1000768 b44 c45 0 q4.2.1.length 115, .al 1000769 b46 c47 0 q4.2.2.length 130]]⟩), (1001024, ent b49 c50 115 (List.map (eCommit true) x27.commits)), (1001025, ent b51 c52 130 (List.map eHead x27.heads)), (64, ⟨b53, 1, 210, true, [[.al 1001024 b49 c50 0 x27.commits.length 115, .al 1001025 b51 c52 0 x27.heads.length 130]]⟩), (1001152, ent b55 c56 115 (List.map (eCommit true) q34.2.1)), (1001153, ent b58 c59 130 (List.map eHead q34.2.2)), (72, ⟨b60, 1, 210, true, [[.al 1001152 b55 c56 0 q34.2.1.length 115, .al 1001153 b58 c59 0 q34.2.2.length 130]]⟩)] o)) ?_ ?_
  · obtain ⟨x35, h36, h97⟩ := bnd h97
    refine go ?_; intros
    refine c_call (c := c_impl_RepoDrop) (x27, a1) H_impl_RepoDrop h36 fun ch => ?_
    refine go ?_; intros
    cases h97
    exact k_cn ⟨_, _, _, _, _, _, _, _, _, _, _, _, _, _, _, _, pin, pinh⟩
  rintro t o ⟨b43, b44, c45, b46, c47, b48, b49, c50, b51, c52, b53, b55, c56, b58, c59, b60, pq1, pq2⟩
  refine pinned pq1 pq2 ?_
  obtain ⟨x61, h62, h⟩ := bnd h
  refine go ?_; intros
  refine c_call (c := c_laws_eqRepo) ((⟨q34.2.1, q34.2.2⟩ : Repo), (⟨q4.2.1, q4.2.2⟩ : Repo)) H_laws_eqRepo h62 fun ch => ?_
  refine go ?_; intros
  refine s_split rfl (fun c => ?_) (fun c => ?_)
  · replace h := itt h c
    rw [c]
    refine go ?_; intros
    cases h
    exact r_end
  replace h := itf h c
  rw [c]
  refine go ?_; intros
  refine w_cond rfl (fun c => ?_) (fun c => ?_)
  · replace h := itt h c
    try rw [c]
    refine go ?_; intros
    cases h
    exact r_end
  replace h := itf h c
  try rw [c]
  obtain ⟨x63, h64, h⟩ := bnd h
  refine go ?_; intros
  refine c_call (c := c_laws_toRepo) (a0) H_laws_toRepo h64 fun ch => ?_
  obtain ⟨x69, h70, h⟩ := bnd h
  refine go ?_; intros
  refine c_call (c := c_laws_eqRepo) (x27, x63) H_laws_eqRepo h70 fun ch => ?_
  refine go ?_; intros
  refine w_cond rfl (fun c => ?_) (fun c => ?_)
  · replace h := itt h c
    try rw [c]
    refine go ?_; intros
    cases h
    exact r_end
  replace h := itf h c
  try rw [c]
  obtain ⟨x71, h72, h⟩ := bnd h
  refine go ?_; intros
  have L72 := l_laws_markRepo h72; (try dsimp only at L72); refine c_callg (c := c_laws_markRepo) (x27, 1) H_laws_markRepo h72 fun ch => ?_
  refine go ?_; intros
  refine s_split rfl (fun c => ?_) (fun c => ?_)
  · replace h := itt h c
    rw [c]
    refine go ?_; intros
    cases h
    exact r_end
  replace h := itf h c
  rw [c]
  obtain ⟨x73, h74, h⟩ := bnd h
  refine go ?_; intros
  refine c_call (c := c_laws_eqRepo) ((⟨q34.2.1, q34.2.2⟩ : Repo), (⟨q4.2.1, q4.2.2⟩ : Repo)) H_laws_eqRepo h74 fun ch => ?_
  refine go ?_; intros
  refine s_split rfl (fun c => ?_) (fun c => ?_)
  · replace h := itt h c
    rw [c]
    refine go ?_; intros
    cases h
    exact r_end
  replace h := itf h c
  rw [c]
  refine go ?_; intros
  refine w_cond rfl (fun c => ?_) (fun c => ?_)
  · replace h := itt h c
    try rw [c]
    refine go ?_; intros
    cases h
    exact r_end
  replace h := itf h c
  try rw [c]
  obtain ⟨x75, h76, h⟩ := bnd h
  refine go ?_; intros
  have L76 := l_laws_markRepo h76; (try dsimp only at L76); refine c_callg (c := c_laws_markRepo) ((⟨q34.2.1, q34.2.2⟩ : Repo), 1) H_laws_markRepo h76 fun ch => ?_
  obtain ⟨x77, h78, h⟩ := bnd h
  refine go ?_; intros
  refine c_call (c := c_laws_heldRepo) (x75.2, 1) H_laws_heldRepo h78 fun ch => ?_
  refine go ?_; intros
  refine w_cond rfl (fun c => ?_) (fun c => ?_)
  · replace h := itt h c
    try rw [c]
    refine go ?_; intros
    cases h
    exact r_end
  replace h := itf h c
  try rw [c]
  refine go ?_; intros
  refine w_cond rfl (fun c => ?_) (fun c => ?_)
  · replace h := itt h c
    try rw [c]
    refine go ?_; intros
    cases h
    exact r_end
  replace h := itf h c
  try rw [c]
  obtain ⟨x79, h80, h⟩ := bnd h
  refine go ?_; intros
  refine c_call (c := c_laws_toRepo) (a0) H_laws_toRepo h80 fun ch => ?_
  obtain ⟨x85, h86, h⟩ := bnd h
  refine go ?_; intros
  refine c_call (c := c_impl_RepoDrop) (x79, a1) H_impl_RepoDrop h86 fun ch => ?_
  obtain ⟨x92, h93, h⟩ := bnd h
  refine go ?_; intros
  refine c_call (c := c_laws_eqRepo) (x85.1, (⟨q4.2.1, q4.2.2⟩ : Repo)) H_laws_eqRepo h93 fun ch => ?_
  refine go ?_; intros
  refine s_split rfl (fun c => ?_) (fun c => ?_)
  · replace h := itt h c
    rw [c]
    refine go ?_; intros
    cases h
    exact r_end
  replace h := itf h c
  rw [c]
  refine go ?_; intros
  refine w_cond rfl (fun c => ?_) (fun c => ?_)
  · replace h := itt h c
    try rw [c]
    refine go ?_; intros
    cases h
    exact r_end
  replace h := itf h c
  try rw [c]
  obtain ⟨x94, h95, h⟩ := bnd h
  refine go ?_; intros
  refine c_call (c := c_laws_heldRepo) (x75.2, 1) H_laws_heldRepo h95 fun ch => ?_
  refine go ?_; intros
  refine w_cond rfl (fun c => ?_) (fun c => ?_)
  · replace h := itt h c
    try rw [c]
    refine go ?_; intros
    cases h
    exact r_end
  replace h := itf h c
  try rw [c]
  refine go ?_; intros
  refine w_cond rfl (fun c => ?_) (fun c => ?_)
  · replace h := itt h c
    try rw [c]
    refine go ?_; intros
    cases h
    exact r_end
  replace h := itf h c
  try rw [c]
  refine go ?_; intros
  cases h
  exact r_end
end Go.Proofs.AM
