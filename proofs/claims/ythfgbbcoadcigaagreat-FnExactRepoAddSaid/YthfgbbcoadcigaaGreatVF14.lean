/- A part of the proofs of this seat's statements (VF14): lemmas on an abstract machine for the program's functions. Conditions: none. -/
import Derived.Test.YthfgbbcoadcigaaGreatVD
set_option linter.unusedVariables false
set_option maxRecDepth 100000
set_option maxHeartbeats 4000000
namespace Go.Proofs.AM
attribute [local irreducible] vwp vstps vstpLs vstp vdo vret kseq kblk kloop kend kcut kloop2 frzV renV shutK
theorem d_laws_heldCommitS {G : Gam} (H_laws_heldIntS : Has G c_laws_heldIntS) (H_laws_heldFeatS : Has G c_laws_heldFeatS) (H_laws_markText : Has G c_laws_markText) (a0 : (List Commit)) (a1 : Int) (r : Int) (h : gf_laws_heldCommitS a0 a1 = some r) : Does G if_laws_heldCommitS ks_laws_heldCommitS (c_laws_heldCommitS.args (a0, a1)) [] (c_laws_heldCommitS.ans (a0, a1) r) := by
  refine does_pn (L := [(0, .ro (List.map (eCommit false) a0)), (1, .v (.int .i64 a1))]) (fun bs => pin) fun bs t o => ?_
  show vwp _ ib_laws_heldCommitS _ _
  unfold ib_laws_heldCommitS
  unfold gf_laws_heldCommitS at h
  obtain ⟨hf38, h⟩ := gd h
  obtain ⟨q27, h46, h⟩ := bnd h
  refine go ?_; intros
  refine w_last (fun t o => ∃ q27_, q27 = .inr q27_ ∧ Pin t (ovr [(1, .v (.int .i64 q27_))] t) ∧ PinH o (ovh [] o)) ?_ ?_
  · refine w_loop2 (fun n t o => ∃ l32 k30 v28 , gl_laws_heldCommitS_1 l32 k30 v28 = some q27 ∧ n = l32.length ∧ (a0).drop k30 = l32 ∧ Pin t (ovr [(0, .ro (List.map (eCommit false) a0)), (1, .v (.int .i64 v28)), (5, .v (.int .i64 (k30 : Int)))] t) ∧ PinH o (ovh [] o)) _ ⟨_, _, _, h46, rfl, rfl, pin, pinh⟩ ?_
    rintro n t o ⟨l32, k30, v28, h46, rfl, hd33, q1, q2⟩
    refine pinned q1 q2 ?_
    cases l32 with
    | nil =>
      have hge35 := drop_ge hd33
      rw [gl_laws_heldCommitS_1] at h46
      refine go ?_; intros
      rw [hge35]
      refine go ?_; intros
      cases h46
      exact k_cn ⟨_, rfl, pin, pinh⟩
    | cons x31 l32 =>
      have hlt34 := drop_lt hd33
      have hx36 := drop_ix hd33
      have hw37 := drop_wr hd33 hf38
      rw [gl_laws_heldCommitS_1] at h46
      refine go ?_; intros
      rw [hlt34]
      refine go ?_; intros
      refine r_iro rfl rfl hx36 rfl ?_
      obtain ⟨x39, h40, h46⟩ := bnd h46
      refine go ?_; intros
      refine c_call (c := c_laws_heldIntS) (x31.up, v28) H_laws_heldIntS h40 fun ch => ?_
      refine go ?_; intros
      refine w_cond rfl (fun c => ?_) (fun c => ?_)
      · replace h46 := itt h46 c
        try rw [c]
        refine go ?_; intros
        cases h46
        replace h : some _ = some _ := h
        cases h
        exact r_end
      replace h46 := itf h46 c
      try rw [c]
      refine go ?_; intros
      refine r_iro rfl rfl hx36 rfl ?_
      obtain ⟨x41, h42, h46⟩ := bnd h46
      refine go ?_; intros
      refine c_call (c := c_laws_heldFeatS) (x31.sheet, x39) H_laws_heldFeatS h42 fun ch => ?_
      refine go ?_; intros
      refine w_cond rfl (fun c => ?_) (fun c => ?_)
      · replace h46 := itt h46 c
        try rw [c]
        refine go ?_; intros
        cases h46
        replace h : some _ = some _ := h
        cases h
        exact r_end
      replace h46 := itf h46 c
      try rw [c]
      refine go ?_; intros
      refine r_iro rfl rfl hx36 rfl ?_
      obtain ⟨x43, h44, h46⟩ := bnd h46
      refine go ?_; intros
      refine c_call (c := c_laws_markText) (x41) H_laws_markText h44 fun ch => ?_
      refine go ?_; intros
      refine w_cond rfl (fun c => ?_) (fun c => ?_)
      · replace h46 := itt h46 c
        try rw [c]
        refine go ?_; intros
        cases h46
        replace h : some _ = some _ := h
        cases h
        exact r_end
      replace h46 := itf h46 c
      try rw [c]
      refine go ?_; intros
      rw [hw37]
      exact k_ln2 _ (Nat.lt_succ_self _) ⟨_, _, _, h46, rfl, drop_next hd33, pin, pinh⟩
  rintro t o ⟨q27, rfl, q1, q2⟩
  refine pinnedQ q1 q2 ?_
  refine go ?_; intros
  cases h
  exact r_end
theorem d_laws_heldHeadS {G : Gam} (H_laws_markText : Has G c_laws_markText) (a0 : (List Head)) (a1 : Int) (r : Int) (h : gf_laws_heldHeadS a0 a1 = some r) : Does G if_laws_heldHeadS ks_laws_heldHeadS (c_laws_heldHeadS.args (a0, a1)) [] (c_laws_heldHeadS.ans (a0, a1) r) := by
  refine does_pn (L := [(0, .ro (List.map eHead a0)), (1, .v (.int .i64 a1))]) (fun bs => pin) fun bs t o => ?_
  show vwp _ ib_laws_heldHeadS _ _
  unfold ib_laws_heldHeadS
  unfold gf_laws_heldHeadS at h
  obtain ⟨hf26, h⟩ := gd h
  obtain ⟨q15, h30, h⟩ := bnd h
  refine go ?_; intros
  refine w_last (fun t o => ∃ q15_, q15 = .inr q15_ ∧ Pin t (ovr [(1, .v (.int .i64 q15_))] t) ∧ PinH o (ovh [] o)) ?_ ?_
  · refine w_loop2 (fun n t o => ∃ l20 k18 v16 , gl_laws_heldHeadS_1 l20 k18 v16 = some q15 ∧ n = l20.length ∧ (a0).drop k18 = l20 ∧ Pin t (ovr [(0, .ro (List.map eHead a0)), (1, .v (.int .i64 v16)), (5, .v (.int .i64 (k18 : Int)))] t) ∧ PinH o (ovh [] o)) _ ⟨_, _, _, h30, rfl, rfl, pin, pinh⟩ ?_
    rintro n t o ⟨l20, k18, v16, h30, rfl, hd21, q1, q2⟩
    refine pinned q1 q2 ?_
    cases l20 with
    | nil =>
      have hge23 := drop_ge hd21
      rw [gl_laws_heldHeadS_1] at h30
      refine go ?_; intros
      rw [hge23]
      refine go ?_; intros
      cases h30
      exact k_cn ⟨_, rfl, pin, pinh⟩
    | cons x19 l20 =>
      have hlt22 := drop_lt hd21
      have hx24 := drop_ix hd21
      have hw25 := drop_wr hd21 hf26
      rw [gl_laws_heldHeadS_1] at h30
      refine go ?_; intros
      rw [hlt22]
      refine go ?_; intros
      refine r_iro rfl rfl hx24 rfl ?_
      obtain ⟨x27, h28, h30⟩ := bnd h30
      refine go ?_; intros
      refine c_call (c := c_laws_markText) (v16) H_laws_markText h28 fun ch => ?_
      refine go ?_; intros
      refine w_cond rfl (fun c => ?_) (fun c => ?_)
      · replace h30 := itt h30 c
        try rw [c]
        refine go ?_; intros
        cases h30
        replace h : some _ = some _ := h
        cases h
        exact r_end
      replace h30 := itf h30 c
      try rw [c]
      refine go ?_; intros
      refine r_iro rfl rfl hx24 rfl ?_
      refine go ?_; intros
      refine w_cond rfl (fun c => ?_) (fun c => ?_)
      · replace h30 := itt h30 c
        try rw [c]
        refine go ?_; intros
        cases h30
        replace h : some _ = some _ := h
        cases h
        exact r_end
      replace h30 := itf h30 c
      try rw [c]
      refine go ?_; intros
      rw [hw25]
      exact k_ln2 _ (Nat.lt_succ_self _) ⟨_, _, _, h30, rfl, drop_next hd21, pin, pinh⟩
  rintro t o ⟨q15, rfl, q1, q2⟩
  refine pinnedQ q1 q2 ?_
  refine go ?_; intros
  cases h
  exact r_end
theorem d_laws_szRepo {G : Gam} (H_laws_szCommitS : Has G c_laws_szCommitS) (H_laws_szHeadS : Has G c_laws_szHeadS) (a0 : Repo) (a1 : Int) (r : Int) (h : gf_laws_szRepo a0 a1 = some r) : Does G if_laws_szRepo ks_laws_szRepo (c_laws_szRepo.args (a0, a1)) [] (c_laws_szRepo.ans (a0, a1) r) := by
  refine does_pn (L := [(0, .agg [.ro (List.map (eCommit false) a0.commits), .ro (List.map eHead a0.heads)]), (1, .v (.int .i64 a1))]) (fun bs => pin) fun bs t o => ?_
  show vwp _ ib_laws_szRepo _ _
  unfold ib_laws_szRepo
  unfold gf_laws_szRepo at h
  obtain ⟨x2, h3, h⟩ := bnd h
  refine go ?_; intros
  refine c_call (c := c_laws_szCommitS) (a0.commits, a1) H_laws_szCommitS h3 fun ch => ?_
  refine go ?_; intros
  refine w_cond rfl (fun c => ?_) (fun c => ?_)
  · replace h := itt h c
    try rw [c]
    refine go ?_; intros
    cases h
    exact r_end
  replace h := itf h c
  try rw [c]
  obtain ⟨x4, h5, h⟩ := bnd h
  refine go ?_; intros
  refine c_call (c := c_laws_szHeadS) (a0.heads, x2) H_laws_szHeadS h5 fun ch => ?_
  refine go ?_; intros
  refine w_cond rfl (fun c => ?_) (fun c => ?_)
  · replace h := itt h c
    try rw [c]
    refine go ?_; intros
    cases h
    exact r_end
  replace h := itf h c
  try rw [c]
  refine go ?_; intros
  cases h
  exact r_end
theorem d_laws_toRepo {G : Gam} (H_laws_toCommitS : Has G c_laws_toCommitS) (H_laws_toHeadS : Has G c_laws_toHeadS) (a0 : Repo) (r : Repo) (h : gf_laws_toRepo a0 = some r) : Does G if_laws_toRepo ks_laws_toRepo (c_laws_toRepo.args (a0)) [] (c_laws_toRepo.ans (a0) r) := by
  refine does_pn (L := [(0, .agg [.ro (List.map (eCommit false) a0.commits), .ro (List.map eHead a0.heads)])]) (fun bs => pin) fun bs t o => ?_
  show vwp _ ib_laws_toRepo _ _
  unfold ib_laws_toRepo
  unfold gf_laws_toRepo at h
  obtain ⟨x4, h5, h⟩ := bnd h
  refine go ?_; intros
  refine c_call (c := c_laws_toCommitS) (a0.commits) H_laws_toCommitS h5 fun ch => ?_
  obtain ⟨x8, h9, h⟩ := bnd h
  refine go ?_; intros
  refine c_call (c := c_laws_toHeadS) (a0.heads) H_laws_toHeadS h9 fun ch => ?_
  refine go ?_; intros
  cases h
  exact r_end
theorem d_laws_eqRepo {G : Gam} (H_laws_eqCommitS : Has G c_laws_eqCommitS) (H_laws_eqHeadS : Has G c_laws_eqHeadS) (a0 : Repo) (a1 : Repo) (r : Bool) (h : gf_laws_eqRepo a0 a1 = some r) : Does G if_laws_eqRepo ks_laws_eqRepo (c_laws_eqRepo.args (a0, a1)) [] (c_laws_eqRepo.ans (a0, a1) r) := by
  refine does_pn (L := [(0, .agg [.ro (List.map (eCommit false) a0.commits), .ro (List.map eHead a0.heads)]), (1, .agg [.ro (List.map (eCommit false) a1.commits), .ro (List.map eHead a1.heads)])]) (fun bs => pin) fun bs t o => ?_
  show vwp _ ib_laws_eqRepo _ _
  unfold ib_laws_eqRepo
  unfold gf_laws_eqRepo at h
  obtain ⟨x3, h4, h⟩ := bnd h
  refine go ?_; intros
  refine c_call (c := c_laws_eqCommitS) (a0.commits, a1.commits) H_laws_eqCommitS h4 fun ch => ?_
  refine go ?_; intros
  refine w_cond rfl (fun c => ?_) (fun c => ?_)
  · replace h := itt h c
    try rw [c]
    refine go ?_; intros
    cases h
    exact r_end
  replace h := itf h c
  try rw [c]
  obtain ⟨x5, h6, h⟩ := bnd h
  refine go ?_; intros
  refine c_call (c := c_laws_eqHeadS) (a0.heads, a1.heads) H_laws_eqHeadS h6 fun ch => ?_
  refine go ?_; intros
  refine w_cond rfl (fun c => ?_) (fun c => ?_)
  · replace h := itt h c
    try rw [c]
    refine go ?_; intros
    cases h
    exact r_end
  replace h := itf h c
  try rw [c]
  refine go ?_; intros
  cases h
  exact r_end
theorem d_laws_markRepo {G : Gam} (H_laws_markCommitS : Has G c_laws_markCommitS) (H_laws_markHeadS : Has G c_laws_markHeadS) (a0 : Repo) (a1 : Int) (r : (Int × Repo)) (h : gf_laws_markRepo a0 a1 = some r) : Does G if_laws_markRepo ks_laws_markRepo (c_laws_markRepo.args (a0, a1)) (c_laws_markRepo.ins (a0, a1)) (c_laws_markRepo.ans (a0, a1) r) := by
  refine does_pg (L := fun bs => [(0, .agg [.ref 0 (bs 0).1 (bs 0).2 0 a0.commits.length 115, .ref 8 (bs 1).1 (bs 1).2 0 a0.heads.length 130]), (1, .v (.int .i64 a1))]) (H := fun bs => [(0, ent (bs 0).1 (bs 0).2 115 (List.map (eCommit true) a0.commits)), (8, ent (bs 1).1 (bs 1).2 130 (List.map eHead a0.heads))]) (fun bs => pin) (fun bs => pinh) fun bs t o => ?_
  show vwp _ ib_laws_markRepo _ _
  unfold ib_laws_markRepo
  unfold gf_laws_markRepo at h
  obtain ⟨x2, h3, h⟩ := bnd h
  refine go ?_; intros
  have L3 := l_laws_markCommitS h3; (try dsimp only at L3); refine c_callg (c := c_laws_markCommitS) (a0.commits, a1) H_laws_markCommitS h3 fun ch => ?_
  obtain ⟨x4, h5, h⟩ := bnd h
  refine go ?_; intros
  have L5 := l_laws_markHeadS h5; (try dsimp only at L5); refine c_callg (c := c_laws_markHeadS) (a0.heads, x2.1) H_laws_markHeadS h5 fun ch => ?_
  refine go ?_; intros
  cases h
  exact r_endg
theorem d_laws_heldRepo {G : Gam} (H_laws_heldCommitS : Has G c_laws_heldCommitS) (H_laws_heldHeadS : Has G c_laws_heldHeadS) (a0 : Repo) (a1 : Int) (r : Int) (h : gf_laws_heldRepo a0 a1 = some r) : Does G if_laws_heldRepo ks_laws_heldRepo (c_laws_heldRepo.args (a0, a1)) [] (c_laws_heldRepo.ans (a0, a1) r) := by
  refine does_pn (L := [(0, .agg [.ro (List.map (eCommit false) a0.commits), .ro (List.map eHead a0.heads)]), (1, .v (.int .i64 a1))]) (fun bs => pin) fun bs t o => ?_
  show vwp _ ib_laws_heldRepo _ _
  unfold ib_laws_heldRepo
  unfold gf_laws_heldRepo at h
  obtain ⟨x2, h3, h⟩ := bnd h
  refine go ?_; intros
  refine c_call (c := c_laws_heldCommitS) (a0.commits, a1) H_laws_heldCommitS h3 fun ch => ?_
  refine go ?_; intros
  refine w_cond rfl (fun c => ?_) (fun c => ?_)
  · replace h := itt h c
    try rw [c]
    refine go ?_; intros
    cases h
    exact r_end
  replace h := itf h c
  try rw [c]
  obtain ⟨x4, h5, h⟩ := bnd h
  refine go ?_; intros
  refine c_call (c := c_laws_heldHeadS) (a0.heads, x2) H_laws_heldHeadS h5 fun ch => ?_
  refine go ?_; intros
  refine w_cond rfl (fun c => ?_) (fun c => ?_)
  · replace h := itt h c
    try rw [c]
    refine go ?_; intros
    cases h
    exact r_end
  replace h := itf h c
  try rw [c]
  refine go ?_; intros
  cases h
  exact r_end
theorem d_impl_RepoAdd {G : Gam} (H_impl_RepoOk : Has G c_impl_RepoOk) (H_impl_SheetOk : Has G c_impl_SheetOk) (H_impl_WordOk : Has G c_impl_WordOk) (H_impl_cloneRepo : Has G c_impl_cloneRepo) (H_impl_Repo_head : Has G c_impl_Repo_head) (H_impl_SheetSame : Has G c_impl_SheetSame) (H_impl_Repo_set : Has G c_impl_Repo_set) (a0 : Repo) (a1 : Str) (a2 : (List Feat)) (a3 : Str) (r : (Repo × Int)) (h : gf_impl_RepoAdd a0 a1 a2 a3 = some r) : Does G if_impl_RepoAdd ks_impl_RepoAdd (c_impl_RepoAdd.args (a0, a1, a2, a3)) [] (c_impl_RepoAdd.ans (a0, a1, a2, a3) r) := by
  refine does_pn (L := [(0, .agg [.ro (List.map (eCommit false) a0.commits), .ro (List.map eHead a0.heads)]), (1, .v (.string a1)), (2, .ro (List.map (eFeat false) a2)), (3, .v (.string a3))]) (fun bs => pin) fun bs t o => ?_
  show vwp _ ib_impl_RepoAdd _ _
  unfold ib_impl_RepoAdd
  unfold gf_impl_RepoAdd at h
  obtain ⟨x3, h4, h⟩ := bnd h
  refine go ?_; intros
  refine c_call (c := c_impl_RepoOk) (a0) H_impl_RepoOk h4 fun ch => ?_
  refine go ?_; intros
  refine s_split rfl (fun c => ?_) (fun c => ?_)
  · replace h := itt h c
    rw [c]
    refine go ?_; intros
    cases h
    exact r_end
  replace h := itf h c
  rw [c]
  obtain ⟨x5, h6, h⟩ := bnd h
  refine go ?_; intros
  refine c_call (c := c_impl_SheetOk) (a2) H_impl_SheetOk h6 fun ch => ?_
  refine go ?_; intros
  refine s_split rfl (fun c => ?_) (fun c => ?_)
  · replace h := itt h c
    rw [c]
    refine go ?_; intros
    cases h
    exact r_end
  replace h := itf h c
  rw [c]
  obtain ⟨x7, h8, h⟩ := bnd h
  refine go ?_; intros
  refine c_call (c := c_impl_WordOk) (a3) H_impl_WordOk h8 fun ch => ?_
  refine go ?_; intros
  refine w_cond rfl (fun c => ?_) (fun c => ?_)
  · replace h := itt h c
    try rw [c]
    refine go ?_; intros
    cases h
    exact r_end
  replace h := itf h c
  try rw [c]
  obtain ⟨q9, h49, h⟩ := bnd h
  refine go ?_; intros
  refine w_cut (fun t o => ∃ b17 b18 c19 b20 c21 b22 b24 c25 b27 c28 b29, Pin t (ovr [(1, .v (.string a1)), (2, .ro (List.map (eFeat false) a2)), (3, .v (.string a3)), (4, .ptr 32 b17 210 0 0), (8, .ptr 64 b22 210 0 0), (10, .ptr 80 b29 210 0 0)] t) ∧ PinH o (ovh [(32, ⟨b17, 1, 210, true, [[.sl false 3 (List.map (eCommit false) a0.commits), .sl false 2 (List.map eHead a0.heads)]]⟩), (1001024, ent b18 c19 115 (List.map (eCommit true) [])), (1001025, ent b20 c21 130 (List.map eHead [])), (64, ⟨b22, 1, 210, true, [[.al 1001024 b18 c19 0 ([] : List Commit).length 115, .al 1001025 b20 c21 0 ([] : List Head).length 130]]⟩), (1001280, ent b24 c25 115 (List.map (eCommit true) q9.1)), (1001281, ent b27 c28 130 (List.map eHead q9.2)), (80, ⟨b29, 1, 210, true, [[.al 1001280 b24 c25 0 q9.1.length 115, .al 1001281 b27 c28 0 q9.2.length 130]]⟩)] o)) ?_ ?_
  · obtain ⟨x10, h11, h49⟩ := bnd h49
    refine go ?_; intros
    refine c_call (c := c_impl_cloneRepo) (a0) H_impl_cloneRepo h11 fun ch => ?_
    refine go ?_; intros
    cases h49
    exact k_cn ⟨_, _, _, _, _, _, _, _, _, _, _, pin, pinh⟩
  rintro t o ⟨b17, b18, c19, b20, c21, b22, b24, c25, b27, c28, b29, q1, q2⟩
  refine pinned q1 q2 ?_
  obtain ⟨x30, h31, h⟩ := bnd h
  refine go ?_; intros
  refine c_call (c := c_impl_Repo_head) (a0, a1) H_impl_Repo_head h31 fun ch => ?_
  refine go ?_; intros
  refine w_cond rfl (fun c => ?_) (fun c => ?_)
  · replace h := itt h c
    try rw [c]
    refine go ?_; intros
    cases h
    exact r_end
  replace h := itf h c
  try rw [c]
  obtain ⟨x32, h33, h⟩ := bnd h
  refine go ?_; intros
  refine r_iro rfl rfl h33 rfl ?_
  obtain ⟨x34, h35, h⟩ := bnd h
  refine go ?_; intros
  refine r_iro rfl rfl h35 rfl ?_
  obtain ⟨x36, h37, h⟩ := bnd h
  refine go ?_; intros
  refine c_call (c := c_impl_SheetSame) (x34.sheet, a2) H_impl_SheetSame h37 fun ch => ?_
  refine go ?_; intros
  refine w_cond rfl (fun c => ?_) (fun c => ?_)
  · replace h := itt h c
    try rw [c]
    refine go ?_; intros
    cases h
    exact r_end
  replace h := itf h c
  try rw [c]
  obtain ⟨x39, h40, h⟩ := bnd h
  refine go ?_; intros
  refine c_callg (c := c_impl_Repo_set) ((⟨q9.1, q9.2⟩ : Repo), x30, (⟨[x32.at_], a2, a3⟩ : Commit)) H_impl_Repo_set h40 fun ch => ?_
  refine go ?_; intros
  refine w_cond rfl (fun c => ?_) (fun c => ?_)
  · replace h := itt h c
    try rw [c]
    refine go ?_; intros
    simp only [List.length_map]
    refine go ?_; intros
    cases h
    exact r_end
  replace h := itf h c
  try rw [c]
  refine go ?_; intros
  simp only [List.length_map]
  refine go ?_; intros
  cases h
  exact r_end
end Go.Proofs.AM
