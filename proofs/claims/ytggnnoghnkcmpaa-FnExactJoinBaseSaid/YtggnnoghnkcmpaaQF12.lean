/- A part of the proof of 'FnExactJoinBaseSaid' (QF12): lemmas on an abstract machine for the program's functions. Conditions: none. -/
import Derived.Test.YtggnnoghnkcmpaaQD
set_option linter.unusedVariables false
set_option maxRecDepth 100000
set_option maxHeartbeats 4000000
namespace Go.Proofs.AM
attribute [local irreducible] vwp vstps vstpLs vstp vdo vret kseq kblk kloop kend kcut kloop2 frzV renV shutK
theorem d_laws_eqCommit {G : Gam} (H_laws_eqIntS : Has G c_laws_eqIntS) (H_laws_eqFeatS : Has G c_laws_eqFeatS) (a0 : Commit) (a1 : Commit) (r : Bool) (h : gf_laws_eqCommit a0 a1 = some r) : Does G if_laws_eqCommit ks_laws_eqCommit (c_laws_eqCommit.args (a0, a1)) [] (c_laws_eqCommit.ans r) := by
  refine does_pn (L := [(0, .agg [.ro (List.map eInt a0.up), .ro (List.map (eFeat false) a0.sheet), .v (.string a0.note)]), (1, .agg [.ro (List.map eInt a1.up), .ro (List.map (eFeat false) a1.sheet), .v (.string a1.note)])]) (fun bs => pin) fun bs t o => ?_
  show vwp _ ib_laws_eqCommit _ _
  unfold ib_laws_eqCommit
  unfold gf_laws_eqCommit at h
  obtain ⟨x3, h4, h⟩ := bnd h
  refine go ?_; intros
  refine c_call (c := c_laws_eqIntS) (a0.up, a1.up) H_laws_eqIntS h4 fun ch => ?_
  refine go ?_; intros
  refine w_cond rfl (fun c => ?_) (fun c => ?_)
  · replace h := itt h c
    try rw [c]
    refine go ?_; intros
    cases h
    exact r_end
  replace h := itf h c
  try rw [c]
  obtain ⟨x5, h6, h⟩ := bnd h
  refine go ?_; intros
  refine c_call (c := c_laws_eqFeatS) (a0.sheet, a1.sheet) H_laws_eqFeatS h6 fun ch => ?_
  refine go ?_; intros
  refine w_cond rfl (fun c => ?_) (fun c => ?_)
  · replace h := itt h c
    try rw [c]
    refine go ?_; intros
    cases h
    exact r_end
  replace h := itf h c
  try rw [c]
  refine go ?_; intros
  refine w_cond rfl (fun c => ?_) (fun c => ?_)
  · replace h := itt h c
    try rw [c]
    refine go ?_; intros
    cases h
    exact r_end
  replace h := itf h c
  try rw [c]
  refine go ?_; intros
  cases h
  exact r_end
theorem d_laws_eqHead {G : Gam}  (a0 : Head) (a1 : Head) (r : Bool) (h : gf_laws_eqHead a0 a1 = some r) : Does G if_laws_eqHead ks_laws_eqHead (c_laws_eqHead.args (a0, a1)) [] (c_laws_eqHead.ans r) := by
  refine does_pn (L := [(0, .agg [.v (.string a0.name), .v (.int .i64 a0.at_)]), (1, .agg [.v (.string a1.name), .v (.int .i64 a1.at_)])]) (fun bs => pin) fun bs t o => ?_
  show vwp _ ib_laws_eqHead _ _
  unfold ib_laws_eqHead
  unfold gf_laws_eqHead at h
  refine go ?_; intros
  refine w_cond rfl (fun c => ?_) (fun c => ?_)
  · replace h := itt h c
    try rw [c]
    refine go ?_; intros
    cases h
    exact r_end
  replace h := itf h c
  try rw [c]
  refine go ?_; intros
  refine w_cond rfl (fun c => ?_) (fun c => ?_)
  · replace h := itt h c
    try rw [c]
    refine go ?_; intros
    cases h
    exact r_end
  replace h := itf h c
  try rw [c]
  refine go ?_; intros
  cases h
  exact r_end
theorem d_laws_eqCommitS {G : Gam} (H_laws_eqCommit : Has G c_laws_eqCommit) (a0 : (List Commit)) (a1 : (List Commit)) (r : Bool) (h : gf_laws_eqCommitS a0 a1 = some r) : Does G if_laws_eqCommitS ks_laws_eqCommitS (c_laws_eqCommitS.args (a0, a1)) [] (c_laws_eqCommitS.ans r) := by
  refine does_pn (L := [(0, .ro (List.map (eCommit false) a0)), (1, .ro (List.map (eCommit false) a1))]) (fun bs => pin) fun bs t o => ?_
  show vwp _ ib_laws_eqCommitS _ _
  unfold ib_laws_eqCommitS
  unfold gf_laws_eqCommitS at h
  refine go ?_; intros
  refine w_cond rfl (fun c => ?_) (fun c => ?_)
  · replace h := itt h c
    try rw [c]
    refine go ?_; intros
    cases h
    exact r_end
  replace h := itf h c
  try rw [c]
  obtain ⟨hf30, h⟩ := gd h
  obtain ⟨q20, h35, h⟩ := bnd h
  refine go ?_; intros
  refine w_last (fun t o => ∃ q20_, q20 = .inr q20_ ∧ Pin t (ovr [] t) ∧ PinH o (ovh [] o)) ?_ ?_
  · refine w_loop2 (fun n t o => ∃ l24 k22  , gl_laws_eqCommitS_1 a1 l24 k22  = some q20 ∧ n = l24.length ∧ (a0).drop k22 = l24 ∧ Pin t (ovr [(0, .ro (List.map (eCommit false) a0)), (1, .ro (List.map (eCommit false) a1)), (5, .v (.int .i64 (k22 : Int)))] t) ∧ PinH o (ovh [] o)) _ ⟨_, _, h35, rfl, rfl, pin, pinh⟩ ?_
    rintro n t o ⟨l24, k22, h35, rfl, hd25, q1, q2⟩
    refine pinned q1 q2 ?_
    cases l24 with
    | nil =>
      have hge27 := drop_ge hd25
      rw [gl_laws_eqCommitS_1] at h35
      refine go ?_; intros
      rw [hge27]
      refine go ?_; intros
      cases h35
      exact k_cn ⟨_, rfl, pin, pinh⟩
    | cons x23 l24 =>
      have hlt26 := drop_lt hd25
      have hx28 := drop_ix hd25
      have hw29 := drop_wr hd25 hf30
      rw [gl_laws_eqCommitS_1] at h35
      refine go ?_; intros
      rw [hlt26]
      refine go ?_; intros
      refine r_iro rfl rfl hx28 rfl ?_
      obtain ⟨x31, h32, h35⟩ := bnd h35
      refine go ?_; intros
      refine r_iro rfl rfl h32 rfl ?_
      obtain ⟨x33, h34, h35⟩ := bnd h35
      refine go ?_; intros
      refine c_call (c := c_laws_eqCommit) (x23, x31) H_laws_eqCommit h34 fun ch => ?_
      refine go ?_; intros
      refine w_cond rfl (fun c => ?_) (fun c => ?_)
      · replace h35 := itt h35 c
        try rw [c]
        refine go ?_; intros
        cases h35
        replace h : some _ = some _ := h
        cases h
        exact r_end
      replace h35 := itf h35 c
      try rw [c]
      refine go ?_; intros
      rw [hw29]
      exact k_ln2 _ (Nat.lt_succ_self _) ⟨_, _, h35, rfl, drop_next hd25, pin, pinh⟩
  rintro t o ⟨q20, rfl, q1, q2⟩
  refine pinnedQ q1 q2 ?_
  refine go ?_; intros
  cases h
  exact r_end
theorem d_laws_eqHeadS {G : Gam} (H_laws_eqHead : Has G c_laws_eqHead) (a0 : (List Head)) (a1 : (List Head)) (r : Bool) (h : gf_laws_eqHeadS a0 a1 = some r) : Does G if_laws_eqHeadS ks_laws_eqHeadS (c_laws_eqHeadS.args (a0, a1)) [] (c_laws_eqHeadS.ans r) := by
  refine does_pn (L := [(0, .ro (List.map eHead a0)), (1, .ro (List.map eHead a1))]) (fun bs => pin) fun bs t o => ?_
  show vwp _ ib_laws_eqHeadS _ _
  unfold ib_laws_eqHeadS
  unfold gf_laws_eqHeadS at h
  refine go ?_; intros
  refine w_cond rfl (fun c => ?_) (fun c => ?_)
  · replace h := itt h c
    try rw [c]
    refine go ?_; intros
    cases h
    exact r_end
  replace h := itf h c
  try rw [c]
  obtain ⟨hf30, h⟩ := gd h
  obtain ⟨q20, h35, h⟩ := bnd h
  refine go ?_; intros
  refine w_last (fun t o => ∃ q20_, q20 = .inr q20_ ∧ Pin t (ovr [] t) ∧ PinH o (ovh [] o)) ?_ ?_
  · refine w_loop2 (fun n t o => ∃ l24 k22  , gl_laws_eqHeadS_1 a1 l24 k22  = some q20 ∧ n = l24.length ∧ (a0).drop k22 = l24 ∧ Pin t (ovr [(0, .ro (List.map eHead a0)), (1, .ro (List.map eHead a1)), (5, .v (.int .i64 (k22 : Int)))] t) ∧ PinH o (ovh [] o)) _ ⟨_, _, h35, rfl, rfl, pin, pinh⟩ ?_
    rintro n t o ⟨l24, k22, h35, rfl, hd25, q1, q2⟩
    refine pinned q1 q2 ?_
    cases l24 with
    | nil =>
      have hge27 := drop_ge hd25
      rw [gl_laws_eqHeadS_1] at h35
      refine go ?_; intros
      rw [hge27]
      refine go ?_; intros
      cases h35
      exact k_cn ⟨_, rfl, pin, pinh⟩
    | cons x23 l24 =>
      have hlt26 := drop_lt hd25
      have hx28 := drop_ix hd25
      have hw29 := drop_wr hd25 hf30
      rw [gl_laws_eqHeadS_1] at h35
      refine go ?_; intros
      rw [hlt26]
      refine go ?_; intros
      refine r_iro rfl rfl hx28 rfl ?_
      obtain ⟨x31, h32, h35⟩ := bnd h35
      refine go ?_; intros
      refine r_iro rfl rfl h32 rfl ?_
      obtain ⟨x33, h34, h35⟩ := bnd h35
      refine go ?_; intros
      refine c_call (c := c_laws_eqHead) (x23, x31) H_laws_eqHead h34 fun ch => ?_
      refine go ?_; intros
      refine w_cond rfl (fun c => ?_) (fun c => ?_)
      · replace h35 := itt h35 c
        try rw [c]
        refine go ?_; intros
        cases h35
        replace h : some _ = some _ := h
        cases h
        exact r_end
      replace h35 := itf h35 c
      try rw [c]
      refine go ?_; intros
      rw [hw29]
      exact k_ln2 _ (Nat.lt_succ_self _) ⟨_, _, h35, rfl, drop_next hd25, pin, pinh⟩
  rintro t o ⟨q20, rfl, q1, q2⟩
  refine pinnedQ q1 q2 ?_
  refine go ?_; intros
  cases h
  exact r_end
theorem d_laws_szRepo {G : Gam} (H_laws_szCommitS : Has G c_laws_szCommitS) (H_laws_szHeadS : Has G c_laws_szHeadS) (a0 : Repo) (a1 : Int) (r : Int) (h : gf_laws_szRepo a0 a1 = some r) : Does G if_laws_szRepo ks_laws_szRepo (c_laws_szRepo.args (a0, a1)) [] (c_laws_szRepo.ans r) := by
  refine does_pn (L := [(0, .agg [.ro (List.map (eCommit false) a0.commits), .ro (List.map eHead a0.heads)]), (1, .v (.int .i64 a1))]) (fun bs => pin) fun bs t o => ?_
  show vwp _ ib_laws_szRepo _ _
  unfold ib_laws_szRepo
  unfold gf_laws_szRepo at h
  obtain ⟨x2, h3, h⟩ := bnd h
  refine go ?_; intros
  refine c_call (c := c_laws_szCommitS) (a0.commits, a1) H_laws_szCommitS h3 fun ch => ?_
  refine go ?_; intros
  refine w_cond rfl (fun c => ?_) (fun c => ?_)
  · replace h := itt h c
    try rw [c]
    refine go ?_; intros
    cases h
    exact r_end
  replace h := itf h c
  try rw [c]
  obtain ⟨x4, h5, h⟩ := bnd h
  refine go ?_; intros
  refine c_call (c := c_laws_szHeadS) (a0.heads, x2) H_laws_szHeadS h5 fun ch => ?_
  refine go ?_; intros
  refine w_cond rfl (fun c => ?_) (fun c => ?_)
  · replace h := itt h c
    try rw [c]
    refine go ?_; intros
    cases h
    exact r_end
  replace h := itf h c
  try rw [c]
  refine go ?_; intros
  cases h
  exact r_end
theorem d_laws_toRepo {G : Gam} (H_laws_toCommitS : Has G c_laws_toCommitS) (H_laws_toHeadS : Has G c_laws_toHeadS) (a0 : Repo) (r : Repo) (h : gf_laws_toRepo a0 = some r) : Does G if_laws_toRepo ks_laws_toRepo (c_laws_toRepo.args (a0)) [] (c_laws_toRepo.ans r) := by
  refine does_pn (L := [(0, .agg [.ro (List.map (eCommit false) a0.commits), .ro (List.map eHead a0.heads)])]) (fun bs => pin) fun bs t o => ?_
  show vwp _ ib_laws_toRepo _ _
  unfold ib_laws_toRepo
  unfold gf_laws_toRepo at h
  obtain ⟨x4, h5, h⟩ := bnd h
  refine go ?_; intros
  refine c_call (c := c_laws_toCommitS) (a0.commits) H_laws_toCommitS h5 fun ch => ?_
  obtain ⟨x8, h9, h⟩ := bnd h
  refine go ?_; intros
  refine c_call (c := c_laws_toHeadS) (a0.heads) H_laws_toHeadS h9 fun ch => ?_
  refine go ?_; intros
  cases h
  exact r_end
theorem d_laws_eqRepo {G : Gam} (H_laws_eqCommitS : Has G c_laws_eqCommitS) (H_laws_eqHeadS : Has G c_laws_eqHeadS) (a0 : Repo) (a1 : Repo) (r : Bool) (h : gf_laws_eqRepo a0 a1 = some r) : Does G if_laws_eqRepo ks_laws_eqRepo (c_laws_eqRepo.args (a0, a1)) [] (c_laws_eqRepo.ans r) := by
  refine does_pn (L := [(0, .agg [.ro (List.map (eCommit false) a0.commits), .ro (List.map eHead a0.heads)]), (1, .agg [.ro (List.map (eCommit false) a1.commits), .ro (List.map eHead a1.heads)])]) (fun bs => pin) fun bs t o => ?_
  show vwp _ ib_laws_eqRepo _ _
  unfold ib_laws_eqRepo
  unfold gf_laws_eqRepo at h
  obtain ⟨x3, h4, h⟩ := bnd h
  refine go ?_; intros
  refine c_call (c := c_laws_eqCommitS) (a0.commits, a1.commits) H_laws_eqCommitS h4 fun ch => ?_
  refine go ?_; intros
  refine w_cond rfl (fun c => ?_) (fun c => ?_)
  · replace h := itt h c
    try rw [c]
    refine go ?_; intros
    cases h
    exact r_end
  replace h := itf h c
  try rw [c]
  obtain ⟨x5, h6, h⟩ := bnd h
  refine go ?_; intros
  refine c_call (c := c_laws_eqHeadS) (a0.heads, a1.heads) H_laws_eqHeadS h6 fun ch => ?_
  refine go ?_; intros
  refine w_cond rfl (fun c => ?_) (fun c => ?_)
  · replace h := itt h c
    try rw [c]
    refine go ?_; intros
    cases h
    exact r_end
  replace h := itf h c
  try rw [c]
  refine go ?_; intros
  cases h
  exact r_end
theorem d_spec_l10Same {G : Gam} (fuel : Nat) (H_spec_SheetSame : Has G c_spec_SheetSame) (H_spec_l10Same : Has G (c_spec_l10Same fuel)) (a0 : Repo) (a1 : Int) (a2 : Repo) (a3 : Int) (r : Bool) (h : gf_spec_l10Same (fuel + 1) a0 a1 a2 a3 = some r) : Does G if_spec_l10Same ks_spec_l10Same ((c_spec_l10Same (fuel + 1)).args (a0, a1, a2, a3)) [] ((c_spec_l10Same (fuel + 1)).ans r) := by
  refine does_pn (L := [(0, .agg [.ro (List.map (eCommit false) a0.commits), .ro (List.map eHead a0.heads)]), (1, .v (.int .i64 a1)), (2, .agg [.ro (List.map (eCommit false) a2.commits), .ro (List.map eHead a2.heads)]), (3, .v (.int .i64 a3))]) (fun bs => pin) fun bs t o => ?_
  show vwp _ ib_spec_l10Same _ _
  unfold ib_spec_l10Same
  replace h : gb_spec_l10Same (gf_spec_l10Same fuel) a0 a1 a2 a3 = some r := h
  unfold gb_spec_l10Same at h
  obtain ⟨x3, h4, h⟩ := bnd h
  refine go ?_; intros
  refine r_iro rfl rfl h4 rfl ?_
  obtain ⟨x6, h7, h⟩ := bnd h
  refine go ?_; intros
  refine r_iro rfl rfl h7 rfl ?_
  refine go ?_; intros
  refine s_split rfl (fun c => ?_) (fun c => ?_)
  · replace h := itt h c
    rw [c]
    refine go ?_; intros
    cases h
    exact r_end
  replace h := itf h c
  rw [c]
  refine go ?_; intros
  refine s_split rfl (fun c => ?_) (fun c => ?_)
  · replace h := itt h c
    rw [c]
    refine go ?_; intros
    cases h
    exact r_end
  replace h := itf h c
  rw [c]
  obtain ⟨x9, h10, h⟩ := bnd h
  refine go ?_; intros
  refine c_call (c := c_spec_SheetSame) (x3.sheet, x6.sheet) H_spec_SheetSame h10 fun ch => ?_
  refine go ?_; intros
  refine w_cond rfl (fun c => ?_) (fun c => ?_)
  · replace h := itt h c
    try rw [c]
    refine go ?_; intros
    cases h
    exact r_end
  replace h := itf h c
  try rw [c]
  obtain ⟨hf52, h⟩ := gd h
  obtain ⟨q38, h57, h⟩ := bnd h
  refine go ?_; intros
  refine w_last (fun t o => ∃ q38_, q38 = .inr q38_ ∧ Pin t (ovr [] t) ∧ PinH o (ovh [] o)) ?_ ?_
  · refine w_loop2 (fun n t o => ∃ l46 k44  b40 b41 b42 b43, gl_spec_l10Same_1 x6 (gf_spec_l10Same fuel) a0 a2 l46 k44  = some q38 ∧ n = l46.length ∧ (x3.up).drop k44 = l46 ∧ Pin t (ovr [(4, .ptr 32 b40 210 0 0), (6, .ptr 48 b41 210 0 0), (9, .ptr 72 b42 115 0 0), (10, .ptr 80 b43 115 0 0), (11, .v (.int .i64 (k44 : Int)))] t) ∧ PinH o (ovh [(32, ⟨b40, 1, 210, true, [[.sl false 3 (List.map (eCommit false) a0.commits), .sl false 2 (List.map eHead a0.heads)]]⟩), (48, ⟨b41, 1, 210, true, [[.sl false 3 (List.map (eCommit false) a2.commits), .sl false 2 (List.map eHead a2.heads)]]⟩), (72, ⟨b42, 1, 115, true, [[.sl false 1 (List.map eInt x3.up), .sl false 4 (List.map (eFeat false) x3.sheet), .v (.string x3.note)]]⟩), (80, ⟨b43, 1, 115, true, [[.sl false 1 (List.map eInt x6.up), .sl false 4 (List.map (eFeat false) x6.sheet), .v (.string x6.note)]]⟩)] o)) _ ⟨_, _, _, _, _, _, h57, rfl, rfl, pin, pinh⟩ ?_
    rintro n t o ⟨l46, k44, b40, b41, b42, b43, h57, rfl, hd47, q1, q2⟩
    refine pinned q1 q2 ?_
    cases l46 with
    | nil =>
      have hge49 := drop_ge hd47
      rw [gl_spec_l10Same_1] at h57
      refine go ?_; intros
      rw [hge49]
      refine go ?_; intros
      cases h57
      exact k_cn ⟨_, rfl, pin, pinh⟩
    | cons x45 l46 =>
      have hlt48 := drop_lt hd47
      have hx50 := drop_ix hd47
      have hw51 := drop_wr hd47 hf52
      rw [gl_spec_l10Same_1] at h57
      refine go ?_; intros
      rw [hlt48]
      refine go ?_; intros
      refine r_iro rfl rfl hx50 rfl ?_
      obtain ⟨x53, h54, h57⟩ := bnd h57
      refine go ?_; intros
      refine r_iro rfl rfl h54 rfl ?_
      obtain ⟨x55, h56, h57⟩ := bnd h57
      refine go ?_; intros
      refine c_call (c := (c_spec_l10Same fuel)) (a0, x45, a2, x53) H_spec_l10Same h56 fun ch => ?_
      refine go ?_; intros
      refine w_cond rfl (fun c => ?_) (fun c => ?_)
      · replace h57 := itt h57 c
        try rw [c]
        refine go ?_; intros
        cases h57
        replace h : some _ = some _ := h
        cases h
        exact r_end
      replace h57 := itf h57 c
      try rw [c]
      refine go ?_; intros
      rw [hw51]
      exact k_ln2 _ (Nat.lt_succ_self _) ⟨_, _, _, _, _, _, h57, rfl, drop_next hd47, pin, pinh⟩
  rintro t o ⟨q38, rfl, q1, q2⟩
  refine pinnedQ q1 q2 ?_
  refine go ?_; intros
  cases h
  exact r_end
end Go.Proofs.AM
