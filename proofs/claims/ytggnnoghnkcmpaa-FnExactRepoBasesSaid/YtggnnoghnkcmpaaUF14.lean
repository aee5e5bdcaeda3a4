/- A part of the proofs of this seat's statements (UF14): lemmas on an abstract machine for the program's functions. Conditions: none. -/
import Derived.Test.YtggnnoghnkcmpaaUD
set_option linter.unusedVariables false
set_option maxRecDepth 100000
set_option maxHeartbeats 4000000
namespace Go.Proofs.AM
attribute [local irreducible] vwp vstps vstpLs vstp vdo vret kseq kblk kloop kend kcut kloop2 frzV renV shutK
theorem d_laws_szRepo {G : Gam} (H_laws_szCommitS : Has G c_laws_szCommitS) (H_laws_szHeadS : Has G c_laws_szHeadS) (a0 : Repo) (a1 : Int) (r : Int) (h : gf_laws_szRepo a0 a1 = some r) : Does G if_laws_szRepo ks_laws_szRepo (c_laws_szRepo.args (a0, a1)) [] (c_laws_szRepo.ans (a0, a1) r) := by
  refine does_pn (L := [(0, .agg [.ro (List.map (eCommit false) a0.commits), .ro (List.map eHead a0.heads)]), (1, .v (.int .i64 a1))]) (fun bs => pin) fun bs t o => ?_
  show vwp _ ib_laws_szRepo _ _
  unfold ib_laws_szRepo
  unfold gf_laws_szRepo at h
  obtain ⟨x2, h3, h⟩ := bnd h
  refine go ?_; intros
  refine c_call (c := c_laws_szCommitS) (a0.commits, a1) H_laws_szCommitS h3 fun ch => ?_
  refine go ?_; intros
  refine w_cond rfl (fun c => ?_) (fun c => ?_)
  · replace h := itt h c
    try rw [c]
    refine go ?_; intros
    cases h
    exact r_end
  replace h := itf h c
  try rw [c]
  obtain ⟨x4, h5, h⟩ := bnd h
  refine go ?_; intros
  refine c_call (c := c_laws_szHeadS) (a0.heads, x2) H_laws_szHeadS h5 fun ch => ?_
  refine go ?_; intros
  refine w_cond rfl (fun c => ?_) (fun c => ?_)
  · replace h := itt h c
    try rw [c]
    refine go ?_; intros
    cases h
    exact r_end
  replace h := itf h c
  try rw [c]
  refine go ?_; intros
  cases h
  exact r_end
theorem d_laws_toRepo {G : Gam} (H_laws_toCommitS : Has G c_laws_toCommitS) (H_laws_toHeadS : Has G c_laws_toHeadS) (a0 : Repo) (r : Repo) (h : gf_laws_toRepo a0 = some r) : Does G if_laws_toRepo ks_laws_toRepo (c_laws_toRepo.args (a0)) [] (c_laws_toRepo.ans (a0) r) := by
  refine does_pn (L := [(0, .agg [.ro (List.map (eCommit false) a0.commits), .ro (List.map eHead a0.heads)])]) (fun bs => pin) fun bs t o => ?_
  show vwp _ ib_laws_toRepo _ _
  unfold ib_laws_toRepo
  unfold gf_laws_toRepo at h
  obtain ⟨x4, h5, h⟩ := bnd h
  refine go ?_; intros
  refine c_call (c := c_laws_toCommitS) (a0.commits) H_laws_toCommitS h5 fun ch => ?_
  obtain ⟨x8, h9, h⟩ := bnd h
  refine go ?_; intros
  refine c_call (c := c_laws_toHeadS) (a0.heads) H_laws_toHeadS h9 fun ch => ?_
  refine go ?_; intros
  cases h
  exact r_end
theorem d_laws_eqRepo {G : Gam} (H_laws_eqCommitS : Has G c_laws_eqCommitS) (H_laws_eqHeadS : Has G c_laws_eqHeadS) (a0 : Repo) (a1 : Repo) (r : Bool) (h : gf_laws_eqRepo a0 a1 = some r) : Does G if_laws_eqRepo ks_laws_eqRepo (c_laws_eqRepo.args (a0, a1)) [] (c_laws_eqRepo.ans (a0, a1) r) := by
  refine does_pn (L := [(0, .agg [.ro (List.map (eCommit false) a0.commits), .ro (List.map eHead a0.heads)]), (1, .agg [.ro (List.map (eCommit false) a1.commits), .ro (List.map eHead a1.heads)])]) (fun bs => pin) fun bs t o => ?_
  show vwp _ ib_laws_eqRepo _ _
  unfold ib_laws_eqRepo
  unfold gf_laws_eqRepo at h
  obtain ⟨x3, h4, h⟩ := bnd h
  refine go ?_; intros
  refine c_call (c := c_laws_eqCommitS) (a0.commits, a1.commits) H_laws_eqCommitS h4 fun ch => ?_
  refine go ?_; intros
  refine w_cond rfl (fun c => ?_) (fun c => ?_)
  · replace h := itt h c
    try rw [c]
    refine go ?_; intros
    cases h
    exact r_end
  replace h := itf h c
  try rw [c]
  obtain ⟨x5, h6, h⟩ := bnd h
  refine go ?_; intros
  refine c_call (c := c_laws_eqHeadS) (a0.heads, a1.heads) H_laws_eqHeadS h6 fun ch => ?_
  refine go ?_; intros
  refine w_cond rfl (fun c => ?_) (fun c => ?_)
  · replace h := itt h c
    try rw [c]
    refine go ?_; intros
    cases h
    exact r_end
  replace h := itf h c
  try rw [c]
  refine go ?_; intros
  cases h
  exact r_end
theorem d_laws_markRepo {G : Gam} (H_laws_markCommitS : Has G c_laws_markCommitS) (H_laws_markHeadS : Has G c_laws_markHeadS) (a0 : Repo) (a1 : Int) (r : (Int × Repo)) (h : gf_laws_markRepo a0 a1 = some r) : Does G if_laws_markRepo ks_laws_markRepo (c_laws_markRepo.args (a0, a1)) (c_laws_markRepo.ins (a0, a1)) (c_laws_markRepo.ans (a0, a1) r) := by
  refine does_pg (L := fun bs => [(0, .agg [.ref 0 (bs 0).1 (bs 0).2 0 a0.commits.length 115, .ref 8 (bs 1).1 (bs 1).2 0 a0.heads.length 130]), (1, .v (.int .i64 a1))]) (H := fun bs => [(0, ent (bs 0).1 (bs 0).2 115 (List.map (eCommit true) a0.commits)), (8, ent (bs 1).1 (bs 1).2 130 (List.map eHead a0.heads))]) (fun bs => pin) (fun bs => pinh) fun bs t o => ?_
  show vwp _ ib_laws_markRepo _ _
  unfold ib_laws_markRepo
  unfold gf_laws_markRepo at h
  obtain ⟨x2, h3, h⟩ := bnd h
  refine go ?_; intros
  have L3 := l_laws_markCommitS h3; refine c_callg (c := c_laws_markCommitS) (a0.commits, a1) H_laws_markCommitS h3 fun ch => ?_
  obtain ⟨x4, h5, h⟩ := bnd h
  refine go ?_; intros
  have L5 := l_laws_markHeadS h5; refine c_callg (c := c_laws_markHeadS) (a0.heads, x2.1) H_laws_markHeadS h5 fun ch => ?_
  refine go ?_; intros
  cases h
  exact r_endg
theorem d_impl_greatestFirst {G : Gam}  (a0 : (List Bool)) (r : (List Int)) (h : gf_impl_greatestFirst a0 = some r) : Does G if_impl_greatestFirst ks_impl_greatestFirst (c_impl_greatestFirst.args (a0)) [] (c_impl_greatestFirst.ans (a0) r) := by
  refine does_pn (L := [(0, .ro (List.map eBool a0))]) (fun bs => pin) fun bs t o => ?_
  show vwp _ ib_impl_greatestFirst _ _
  unfold ib_impl_greatestFirst
  unfold gf_impl_greatestFirst at h
  obtain ⟨q26, h41, h⟩ := bnd h
  refine go ?_; intros
  refine w_last (fun t o => ∃ b39 c40, Pin t (ovr [(3, .ref 40 b39 c40 0 q26.length 17)] t) ∧ PinH o (ovh [(40, ent b39 c40 17 (List.map eInt q26))] o)) ?_ ?_
  · refine w_loop2 (fun n t o => ∃ n31 v27 v28 b29 c30, gl_impl_greatestFirst_1 a0 n31 v27 v28 = some q26 ∧ n31 = n ∧ Pin t (ovr [(0, .ro (List.map eBool a0)), (3, .ref 40 b29 c30 0 v28.length 17), (4, .v (.int .i64 v27))] t) ∧ PinH o (ovh [(40, ent b29 c30 17 (List.map eInt v28))] o)) _ ⟨_, _, _, _, _, h41, rfl, pin, pinh⟩ ?_
    rintro n t o ⟨n31, v27, v28, b29, c30, h41, rfl, q1, q2⟩
    refine pinned q1 q2 ?_
    cases n31 with
    | zero => rw [gl_impl_greatestFirst_1] at h41; cases h41
    | succ n31 =>
      rw [gl_impl_greatestFirst_1] at h41
      refine go ?_; intros
      refine w_cond rfl (fun c => ?_) (fun c => ?_)
      · replace h41 := itt h41 c
        try rw [c]
        obtain ⟨x32, h33, h41⟩ := bnd h41
        refine go ?_; intros
        refine r_iro rfl rfl h33 rfl ?_
        refine go ?_; intros
        refine w_cond rfl (fun c => ?_) (fun c => ?_)
        · replace h41 := itt h41 c
          try rw [c]
          obtain ⟨h37, h41⟩ := gd h41
          refine go ?_; intros
          refine r_app (f := eInt) (xs := v28) (ys := ([v27] : (List Int))) rfl (src_mv rfl rfl (by first | rfl | simp)) rfl rfl (by first | rfl | simp) h37 fun b35 c36 => ?_
          refine go ?_; intros
          exact k_ln2 _ (Nat.lt_succ_self _) ⟨_, _, _, _, _, h41, rfl, pin, pinh⟩
        replace h41 := itf h41 c
        try rw [c]
        refine go ?_; intros
        exact k_ln2 _ (Nat.lt_succ_self _) ⟨_, _, _, _, _, h41, rfl, pin, pinh⟩
      replace h41 := itf h41 c
      try rw [c]
      refine go ?_; intros
      cases h41
      exact k_cn ⟨_, _, pin, pinh⟩
  rintro t o ⟨b39, c40, q1, q2⟩
  refine pinnedQ q1 q2 ?_
  refine go ?_; intros
  cases h
  exact r_end
theorem d_impl_RepoPast {G : Gam} (H_impl_RepoOk : Has G c_impl_RepoOk) (H_impl_Repo_version : Has G c_impl_Repo_version) (H_impl_Repo_past : Has G c_impl_Repo_past) (H_impl_greatestFirst : Has G c_impl_greatestFirst) (a0 : Repo) (a1 : Int) (r : (List Int)) (h : gf_impl_RepoPast a0 a1 = some r) : Does G if_impl_RepoPast ks_impl_RepoPast (c_impl_RepoPast.args (a0, a1)) [] (c_impl_RepoPast.ans (a0, a1) r) := by
  refine does_pn (L := [(0, .agg [.ro (List.map (eCommit false) a0.commits), .ro (List.map eHead a0.heads)]), (1, .v (.int .i64 a1))]) (fun bs => pin) fun bs t o => ?_
  show vwp _ ib_impl_RepoPast _ _
  unfold ib_impl_RepoPast
  unfold gf_impl_RepoPast at h
  obtain ⟨x2, h3, h⟩ := bnd h
  refine go ?_; intros
  refine c_call (c := c_impl_RepoOk) (a0) H_impl_RepoOk h3 fun ch => ?_
  refine go ?_; intros
  refine s_split rfl (fun c => ?_) (fun c => ?_)
  · replace h := itt h c
    rw [c]
    refine go ?_; intros
    cases h
    exact r_end
  replace h := itf h c
  rw [c]
  obtain ⟨x4, h5, h⟩ := bnd h
  refine go ?_; intros
  refine c_call (c := c_impl_Repo_version) (a0, a1) H_impl_Repo_version h5 fun ch => ?_
  refine go ?_; intros
  refine w_cond rfl (fun c => ?_) (fun c => ?_)
  · replace h := itt h c
    try rw [c]
    refine go ?_; intros
    cases h
    exact r_end
  replace h := itf h c
  try rw [c]
  obtain ⟨x8, h9, h⟩ := bnd h
  refine go ?_; intros
  refine c_call (c := c_impl_Repo_past) (a0, a1) H_impl_Repo_past h9 fun ch => ?_
  obtain ⟨x12, h13, h⟩ := bnd h
  refine go ?_; intros
  refine c_call (c := c_impl_greatestFirst) (x8) H_impl_greatestFirst h13 fun ch => ?_
  refine go ?_; intros
  cases h
  exact r_end
theorem d_spec_RepoPast {G : Gam} (H_spec_l7In : Has G c_spec_l7In) (H_spec_l7Marks : Has G c_spec_l7Marks) (a0 : Repo) (a1 : Int) (r : (List Int)) (h : gf_spec_RepoPast a0 a1 = some r) : Does G if_spec_RepoPast ks_spec_RepoPast (c_spec_RepoPast.args (a0, a1)) [] (c_spec_RepoPast.ans (a0, a1) r) := by
  refine does_pn (L := [(0, .agg [.ro (List.map (eCommit false) a0.commits), .ro (List.map eHead a0.heads)]), (1, .v (.int .i64 a1))]) (fun bs => pin) fun bs t o => ?_
  show vwp _ ib_spec_RepoPast _ _
  unfold ib_spec_RepoPast
  unfold gf_spec_RepoPast at h
  obtain ⟨x3, h4, h⟩ := bnd h
  refine go ?_; intros
  refine c_call (c := c_spec_l7In) (a0, a1) H_spec_l7In h4 fun ch => ?_
  refine go ?_; intros
  refine w_cond rfl (fun c => ?_) (fun c => ?_)
  · replace h := itt h c
    try rw [c]
    refine go ?_; intros
    cases h
    exact r_end
  replace h := itf h c
  try rw [c]
  obtain ⟨x6, h7, h⟩ := bnd h
  refine go ?_; intros
  refine c_call (c := c_spec_l7Marks) (a0, ([a1] : (List Int))) H_spec_l7Marks h7 fun ch => ?_
  obtain ⟨q38, h55, h⟩ := bnd h
  refine go ?_; intros
  refine w_last (fun t o => ∃ b53 c54, Pin t (ovr [(5, .ref 64 b53 c54 0 q38.length 17)] t) ∧ PinH o (ovh [(64, ent b53 c54 17 (List.map eInt q38))] o)) ?_ ?_
  · refine w_loop2 (fun n t o => ∃ n45 v39 v40 b41 c42 b43 c44, gl_spec_RepoPast_1 x6 n45 v39 v40 = some q38 ∧ n45 = n ∧ Pin t (ovr [(5, .ref 64 b41 c42 0 v40.length 17), (6, .ref 136 b43 c44 0 x6.length 33), (7, .v (.int .i64 v39))] t) ∧ PinH o (ovh [(64, ent b41 c42 17 (List.map eInt v40)), (136, ent b43 c44 33 (List.map eBool x6))] o)) _ ⟨_, _, _, _, _, _, _, h55, rfl, pin, pinh⟩ ?_
    rintro n t o ⟨n45, v39, v40, b41, c42, b43, c44, h55, rfl, q1, q2⟩
    refine pinned q1 q2 ?_
    cases n45 with
    | zero => rw [gl_spec_RepoPast_1] at h55; cases h55
    | succ n45 =>
      rw [gl_spec_RepoPast_1] at h55
      refine go ?_; intros
      refine w_cond rfl (fun c => ?_) (fun c => ?_)
      · replace h55 := itt h55 c
        try rw [c]
        obtain ⟨x46, h47, h55⟩ := bnd h55
        refine go ?_; intros
        refine r_ire (xs := x6) rfl rfl h47 rfl ?_
        refine go ?_; intros
        refine r_lde (f := eBool) (xs := x6) (x := x46) rfl rfl (idx_get h47).2 rfl rfl rfl ?_
        refine go ?_; intros
        refine w_cond rfl (fun c => ?_) (fun c => ?_)
        · replace h55 := itt h55 c
          try rw [c]
          obtain ⟨h51, h55⟩ := gd h55
          refine go ?_; intros
          refine r_app (f := eInt) (xs := v40) (ys := ([v39] : (List Int))) rfl (src_mv rfl rfl (by first | rfl | simp)) rfl rfl (by first | rfl | simp) h51 fun b49 c50 => ?_
          refine go ?_; intros
          exact k_ln2 _ (Nat.lt_succ_self _) ⟨_, _, _, _, _, _, _, h55, rfl, pin, pinh⟩
        replace h55 := itf h55 c
        try rw [c]
        refine go ?_; intros
        exact k_ln2 _ (Nat.lt_succ_self _) ⟨_, _, _, _, _, _, _, h55, rfl, pin, pinh⟩
      replace h55 := itf h55 c
      try rw [c]
      refine go ?_; intros
      cases h55
      exact k_cn ⟨_, _, pin, pinh⟩
  rintro t o ⟨b53, c54, q1, q2⟩
  refine pinnedQ q1 q2 ?_
  refine go ?_; intros
  cases h
  exact r_end
theorem d_laws_FnExactRepoPast {G : Gam} (H_laws_szRepo : Has G c_laws_szRepo) (H_laws_toRepo : Has G c_laws_toRepo) (H_spec_RepoPast : Has G c_spec_RepoPast) (H_impl_RepoPast : Has G c_impl_RepoPast) (H_laws_eqIntS : Has G c_laws_eqIntS) (H_laws_eqRepo : Has G c_laws_eqRepo) (H_laws_markRepo : Has G c_laws_markRepo) (H_laws_markIntS : Has G c_laws_markIntS) (H_laws_heldIntS : Has G c_laws_heldIntS) (a0 : Repo) (a1 : Int) (r : Bool) (h : gf_laws_FnExactRepoPast a0 a1 = some r) : Does G if_laws_FnExactRepoPast ks_laws_FnExactRepoPast (c_laws_FnExactRepoPast.args (a0, a1)) [] (c_laws_FnExactRepoPast.ans (a0, a1) r) := by
  refine does_pn (L := [(0, .agg [.ro (List.map (eCommit false) a0.commits), .ro (List.map eHead a0.heads)]), (1, .v (.int .i64 a1))]) (fun bs => pin) fun bs t o => ?_
  show vwp _ ib_laws_FnExactRepoPast _ _
  unfold ib_laws_FnExactRepoPast
  unfold gf_laws_FnExactRepoPast at h
  obtain ⟨x2, h3, h⟩ := bnd h
  refine go ?_; intros
  refine c_call (c := c_laws_szRepo) (a0, 1048576) H_laws_szRepo h3 fun ch => ?_
  refine go ?_; intros
  refine w_cond rfl (fun c => ?_) (fun c => ?_)
  · replace h := itt h c
    try rw [c]
    refine go ?_; intros
    cases h
    exact r_end
  replace h := itf h c
  try rw [c]
  obtain ⟨x4, h5, h⟩ := bnd h
  refine go ?_; intros
  refine c_call (c := c_laws_toRepo) (a0) H_laws_toRepo h5 fun ch => ?_
  obtain ⟨x10, h11, h⟩ := bnd h
  refine go ?_; intros
  refine c_call (c := c_spec_RepoPast) (x4, a1) H_spec_RepoPast h11 fun ch => ?_
  obtain ⟨q14, h68, h⟩ := bnd h
  refine go ?_; intros
  refine w_cut (fun t o => ∃ b22 b23 c24 b26 c27 b29 c30 b31, Pin t (ovr [(1, .v (.int .i64 a1)), (2, .ptr 16 b22 466 0 0), (6, .ref 168 b23 c24 0 x10.length 17), (7, .ptr 56 b31 210 0 0)] t) ∧ PinH o (ovh [(16, ⟨b22, 1, 466, true, [[.sl false 3 (List.map (eCommit false) a0.commits), .sl false 2 (List.map eHead a0.heads)]]⟩), (168, ent b23 c24 17 (List.map eInt x10)), (1000896, ent b26 c27 115 (List.map (eCommit true) q14.1)), (1000897, ent b29 c30 130 (List.map eHead q14.2)), (56, ⟨b31, 1, 210, true, [[.al 1000896 b26 c27 0 q14.1.length 115, .al 1000897 b29 c30 0 q14.2.length 130]]⟩)] o)) ?_ ?_
  · obtain ⟨x15, h16, h68⟩ := bnd h68
    refine go ?_; intros
    refine c_call (c := c_laws_toRepo) (a0) H_laws_toRepo h16 fun ch => ?_
    refine go ?_; intros
    cases h68
    exact k_cn ⟨_, _, _, _, _, _, _, _, pin, pinh⟩
  rintro t o ⟨b22, b23, c24, b26, c27, b29, c30, b31, q1, q2⟩
  refine pinned q1 q2 ?_
  obtain ⟨x32, h33, h⟩ := bnd h
  refine go ?_; intros
  refine c_call (c := c_impl_RepoPast) ((⟨q14.1, q14.2⟩ : Repo), a1) H_impl_RepoPast h33 fun ch => ?_
  obtain ⟨x36, h37, h⟩ := bnd h
  refine go ?_; intros
  refine c_call (c := c_laws_eqIntS) (x32, x10) H_laws_eqIntS h37 fun ch => ?_
  refine go ?_; intros
  refine w_cond rfl (fun c => ?_) (fun c => ?_)
  · replace h := itt h c
    try rw [c]
    refine go ?_; intros
    cases h
    exact r_end
  replace h := itf h c
  try rw [c]
  obtain ⟨x38, h39, h⟩ := bnd h
  refine go ?_; intros
  refine c_call (c := c_laws_toRepo) (a0) H_laws_toRepo h39 fun ch => ?_
  obtain ⟨x44, h45, h⟩ := bnd h
  refine go ?_; intros
  refine c_call (c := c_laws_eqRepo) ((⟨q14.1, q14.2⟩ : Repo), x38) H_laws_eqRepo h45 fun ch => ?_
  refine go ?_; intros
  refine w_cond rfl (fun c => ?_) (fun c => ?_)
  · replace h := itt h c
    try rw [c]
    refine go ?_; intros
    cases h
    exact r_end
  replace h := itf h c
  try rw [c]
  obtain ⟨x46, h47, h⟩ := bnd h
  refine go ?_; intros
  have L47 := l_laws_markRepo h47; refine c_callg (c := c_laws_markRepo) ((⟨q14.1, q14.2⟩ : Repo), 1) H_laws_markRepo h47 fun ch => ?_
  refine go ?_; intros
  refine s_split rfl (fun c => ?_) (fun c => ?_)
  · replace h := itt h c
    rw [c]
    refine go ?_; intros
    cases h
    exact r_end
  replace h := itf h c
  rw [c]
  obtain ⟨x48, h49, h⟩ := bnd h
  refine go ?_; intros
  refine c_call (c := c_laws_eqIntS) (x32, x10) H_laws_eqIntS h49 fun ch => ?_
  refine go ?_; intros
  refine w_cond rfl (fun c => ?_) (fun c => ?_)
  · replace h := itt h c
    try rw [c]
    refine go ?_; intros
    cases h
    exact r_end
  replace h := itf h c
  try rw [c]
  obtain ⟨x50, h51, h⟩ := bnd h
  refine go ?_; intros
  have L51 := l_laws_markIntS h51; refine c_callg (c := c_laws_markIntS) (x32, 1) H_laws_markIntS h51 fun ch => ?_
  obtain ⟨x52, h53, h⟩ := bnd h
  refine go ?_; intros
  refine c_call (c := c_laws_heldIntS) (x50.2, 1) H_laws_heldIntS h53 fun ch => ?_
  refine go ?_; intros
  refine w_cond rfl (fun c => ?_) (fun c => ?_)
  · replace h := itt h c
    try rw [c]
    refine go ?_; intros
    cases h
    exact r_end
  replace h := itf h c
  try rw [c]
  refine go ?_; intros
  refine w_cond rfl (fun c => ?_) (fun c => ?_)
  · replace h := itt h c
    try rw [c]
    refine go ?_; intros
    cases h
    exact r_end
  replace h := itf h c
  try rw [c]
  obtain ⟨x54, h55, h⟩ := bnd h
  refine go ?_; intros
  refine c_call (c := c_laws_toRepo) (a0) H_laws_toRepo h55 fun ch => ?_
  obtain ⟨x60, h61, h⟩ := bnd h
  refine go ?_; intros
  refine c_call (c := c_impl_RepoPast) (x54, a1) H_impl_RepoPast h61 fun ch => ?_
  obtain ⟨x64, h65, h⟩ := bnd h
  refine go ?_; intros
  refine c_call (c := c_laws_eqIntS) (x60, x10) H_laws_eqIntS h65 fun ch => ?_
  refine go ?_; intros
  refine w_cond rfl (fun c => ?_) (fun c => ?_)
  · replace h := itt h c
    try rw [c]
    refine go ?_; intros
    cases h
    exact r_end
  replace h := itf h c
  try rw [c]
  obtain ⟨x66, h67, h⟩ := bnd h
  refine go ?_; intros
  refine c_call (c := c_laws_heldIntS) (x50.2, 1) H_laws_heldIntS h67 fun ch => ?_
  refine go ?_; intros
  refine w_cond rfl (fun c => ?_) (fun c => ?_)
  · replace h := itt h c
    try rw [c]
    refine go ?_; intros
    cases h
    exact r_end
  replace h := itf h c
  try rw [c]
  refine go ?_; intros
  refine w_cond rfl (fun c => ?_) (fun c => ?_)
  · replace h := itt h c
    try rw [c]
    refine go ?_; intros
    cases h
    exact r_end
  replace h := itf h c
  try rw [c]
  refine go ?_; intros
  cases h
  exact r_end
end Go.Proofs.AM
