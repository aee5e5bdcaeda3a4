/- A part of the proofs of this seat's statements (SDF14): lemmas on an abstract machine for the program's functions. Conditions: none. -/
import Derived.Test.YtcmfdcgopfbkjaaSDD
set_option linter.unusedVariables false
set_option linter.unusedSimpArgs false
set_option maxRecDepth 100000
set_option maxHeartbeats 4000000
namespace Go.Proofs.AM
attribute [local irreducible] vwp vstps vstpLs vstp vdo vret kseq kblk kloop kend kcut kloop2 frzV renV shutK pfzV trnV unrV
theorem d_spec_l7Bent {G : Gam} (H_spec_l7Repo : Has G c_spec_l7Repo) (H_spec_l12Rd_pick : Has G c_spec_l12Rd_pick) (H_spec_l12Rd_num : Has G c_spec_l12Rd_num) (H_spec_l3Bent : Has G c_spec_l3Bent) (a0 : Rd) (g0 : Option Addr) (g1 : Nat) (r : (Repo × Int)) (h : gf_spec_l7Bent a0 = some r) : Does G if_spec_l7Bent ks_spec_l7Bent (c_spec_l7Bent.args (a0, g0, g1)) (c_spec_l7Bent.ins (a0, g0, g1)) (c_spec_l7Bent.ans (a0, g0, g1) r) := by
  refine does_pg (L := fun bs => [(0, .ptr 0 (bs 0).1 290 0 0)]) (H := fun bs => [(0, ⟨(bs 0).1, (bs 0).2, 290, true, [[.rw g0 g1 (List.map eU8 a0.b), .v (.int .i64 a0.p)]]⟩)]) (fun bs => pin) (fun bs => pinh) fun bs t o => ?_
  show vwp _ ib_spec_l7Bent _ _
  unfold ib_spec_l7Bent
  refine w_ir ?_
  unfold gf_spec_l7Bent at h
  obtain ⟨x2, h3, h⟩ := bnd h
  refine go ?_; intros
  refine c_callg (c := c_spec_l7Repo) (a0, g0, g1) H_spec_l7Repo h3 fun ch => ?_
  obtain ⟨x9, h10, h⟩ := bnd h
  refine go ?_; intros
  refine c_callg (c := c_spec_l12Rd_pick) ((⟨a0.b, x2.2⟩ : Rd), (x2.1.commits.length : Int), g0, g1) H_spec_l12Rd_pick h10 fun ch => ?_
  obtain ⟨x11, h12, h⟩ := bnd h
  refine go ?_; intros
  refine c_callg (c := c_spec_l12Rd_pick) ((⟨a0.b, x9.2⟩ : Rd), 48, g0, g1) H_spec_l12Rd_pick h12 fun ch => ?_
  obtain ⟨q13, h53, h⟩ := bnd h
  refine go ?_; intros
  refine w_cut (fun t o => ∃ b14 c15 b16 c17 b18 b19 c20 b21 c22 b23, Pin t (ovr [(0, .ptr 0 (bs 0).1 290 0 0), (2, .ptr 16 b18 210 0 0), (3, .ptr 24 b23 210 0 0), (4, .v (.int .i64 x9.1)), (13, .v (.int .i64 x11.1)), (14, .v (.bool (x11.1 == 0)))] t) ∧ PinH o (ovh [(0, ⟨(bs 0).1, (bs 0).2, 290, true, [[.rw g0 g1 (List.map eU8 a0.b), .v (.int .i64 x11.2)]]⟩), (1000256, ent b14 c15 115 (List.map (eCommit true) [])), (1000257, ent b16 c17 130 (List.map eHead [])), (16, ⟨b18, 1, 210, true, [[.al 1000256 b14 c15 0 ([] : List Commit).length 115, .al 1000257 b16 c17 0 ([] : List Head).length 130]]⟩), (1000384, ent b19 c20 115 (List.map eCommitX x2.1.commits)), (1000385, ent b21 c22 130 (List.map eHead x2.1.heads)), (24, ⟨b23, 1, 210, true, [[.al 1000384 b19 c20 0 x2.1.commits.length 115, .al 1000385 b21 c22 0 x2.1.heads.length 130]]⟩)] o)) ?_ ?_
  · refine go ?_; intros
    cases h53
    exact k_cn ⟨_, _, _, _, _, _, _, _, _, _, pin, pinh⟩
  rintro t o ⟨b14, c15, b16, c17, b18, b19, c20, b21, c22, b23, pq1, pq2⟩
  refine pinned pq1 pq2 ?_
  refine go ?_; intros
  refine w_cond rfl (fun c => ?_) (fun c => ?_)
  · replace h := itt h c
    try rw [c]
    obtain ⟨x25, h26, h⟩ := bnd h
    refine go ?_; intros
    refine c_callg (c := c_spec_l12Rd_num) ((⟨a0.b, x11.2⟩ : Rd), ([(-1), (x2.1.commits.length : Int)] : (List Int)), g0, g1) H_spec_l12Rd_num h26 fun ch => ?_
    obtain ⟨x27, h28, h⟩ := bnd h
    refine go ?_; intros
    refine r_ire (xs := x2.1.heads) rfl rfl h28 rfl ?_
    refine go ?_; intros
    refine c_ste (f := eHead) x2.1.heads (⟨x27.name, x25.1⟩ : Head) (idx_get h28).2 ?_
    refine go ?_; intros
    cases h
    exact r_endg
  replace h := itf h c
  try rw [c]
  refine go ?_; intros
  refine w_cond rfl (fun c => ?_) (fun c => ?_)
  · replace h := itt h c
    try rw [c]
    obtain ⟨x29, h30, h⟩ := bnd h
    refine go ?_; intros
    refine r_ire (xs := x2.1.commits) rfl rfl h30 rfl ?_
    refine go ?_; intros
    refine r_lopg (f := eCommitX) (g := eInt) (xs := x2.1.commits) (x := x29) (ys := x29.up) (idx_get h30).2 rfl rfl rfl fun b31 c32 => ?_
    obtain ⟨h36, h⟩ := gd h
    refine go ?_; intros
    refine r_app (f := eInt) (xs := x29.up) (ys := ([x9.1] : (List Int))) rfl (src_mv rfl rfl (by first | rfl | simp)) rfl rfl (by first | rfl | simp) h36 fun b34 c35 => ?_
    refine go ?_; intros
    refine r_ire (xs := x2.1.commits) rfl rfl h30 rfl ?_
    refine go ?_; intros
    refine c_stc (f := eCommitX) x2.1.commits (⟨(x29.up ++ ([x9.1] : (List Int))), x29.sheet, x29.note⟩ : Commit) (idx_get h30).2 ?_
    refine go ?_; intros
    cases h
    exact r_endg
  replace h := itf h c
  try rw [c]
  refine go ?_; intros
  refine w_cond rfl (fun c => ?_) (fun c => ?_)
  · replace h := itt h c
    try rw [c]
    refine go ?_; intros
    refine r_frz ?_
    obtain ⟨x37, h38, h⟩ := bnd h
    refine go ?_; intros
    refine c_callg (c := c_spec_l3Bent) ((⟨a0.b, x11.2⟩ : Rd), g0, g1) H_spec_l3Bent h38 fun ch => ?_
    refine go ?_; intros
    refine c_fz ?_
    obtain ⟨x41, h42, h⟩ := bnd h
    refine go ?_; intros
    refine r_ire (xs := x2.1.commits) rfl rfl h42 rfl ?_
    refine go ?_; intros
    refine c_ste (f := eCommitX) x2.1.commits (⟨x41.up, x37.1, x41.note⟩ : Commit) (idx_get h42).2 ?_
    refine go ?_; intros
    cases h
    exact r_endg
  replace h := itf h c
  try rw [c]
  refine go ?_; intros
  refine w_cond rfl (fun c => ?_) (fun c => ?_)
  · replace h := itt h c
    try rw [c]
    obtain ⟨x43, h44, h⟩ := bnd h
    refine go ?_; intros
    refine r_ire (xs := x2.1.commits) rfl rfl h44 rfl ?_
    refine go ?_; intros
    refine c_ste (f := eCommitX) x2.1.commits (⟨x43.up, x43.sheet, (⟨#[]⟩ : Str)⟩ : Commit) (idx_get h44).2 ?_
    refine go ?_; intros
    cases h
    exact r_endg
  replace h := itf h c
  try rw [c]
  refine go ?_; intros
  refine w_cond rfl (fun c => ?_) (fun c => ?_)
  · replace h := itt h c
    try rw [c]
    obtain ⟨x45, h46, h⟩ := bnd h
    refine go ?_; intros
    refine r_ire (xs := x2.1.heads) rfl rfl h46 rfl ?_
    refine go ?_; intros
    refine r_lde (f := eHead) (xs := x2.1.heads) (x := x45) rfl rfl (idx_get h46).2 rfl rfl rfl ?_
    obtain ⟨h50, h⟩ := gd h
    refine go ?_; intros
    refine r_app (f := eHead) (xs := x2.1.heads) (ys := ([x45] : (List Head))) rfl (src_mv rfl rfl (by first | rfl | simp)) rfl rfl (by first | rfl | simp) h50 fun b48 c49 => ?_
    refine go ?_; intros
    cases h
    exact r_endg
  replace h := itf h c
  try rw [c]
  refine go ?_; intros
  refine w_cond rfl (fun c => ?_) (fun c => ?_)
  · replace h := itt h c
    try rw [c]
    obtain ⟨x51, h52, h⟩ := bnd h
    refine go ?_; intros
    refine r_ire (xs := x2.1.commits) rfl rfl h52 rfl ?_
    refine go ?_; intros
    refine c_ste (f := eCommitX) x2.1.commits (⟨[], x51.sheet, x51.note⟩ : Commit) (idx_get h52).2 ?_
    refine go ?_; intros
    cases h
    exact r_endg
  replace h := itf h c
  try rw [c]
  refine go ?_; intros
  cases h
  exact r_endg
theorem d_impl_RepoAt {G : Gam} (H_impl_Repo_head : Has G c_impl_Repo_head) (H_impl_RepoOk : Has G c_impl_RepoOk) (a0 : Repo) (a1 : Str) (r : Int) (h : gf_impl_RepoAt a0 a1 = some r) : Does G if_impl_RepoAt ks_impl_RepoAt (c_impl_RepoAt.args (a0, a1)) [] (c_impl_RepoAt.ans (a0, a1) r) := by
  refine does_pn (L := [(0, .agg [.ro (List.map (eCommit false) a0.commits), .ro (List.map eHead a0.heads)]), (1, .v (.string a1))]) (fun bs => pin) fun bs t o => ?_
  show vwp _ ib_impl_RepoAt _ _
  unfold ib_impl_RepoAt
  refine w_ir ?_
  unfold gf_impl_RepoAt at h
  obtain ⟨x2, h3, h⟩ := bnd h
  refine go ?_; intros
  refine c_call (c := c_impl_Repo_head) (a0, a1) H_impl_Repo_head h3 fun ch => ?_
  obtain ⟨x4, h5, h⟩ := bnd h
  refine go ?_; intros
  refine c_call (c := c_impl_RepoOk) (a0) H_impl_RepoOk h5 fun ch => ?_
  refine go ?_; intros
  refine s_split rfl (fun c => ?_) (fun c => ?_)
  · replace h := itt h c
    rw [c]
    refine go ?_; intros
    cases h
    exact r_end
  replace h := itf h c
  rw [c]
  refine go ?_; intros
  refine w_cond rfl (fun c => ?_) (fun c => ?_)
  · replace h := itt h c
    try rw [c]
    refine go ?_; intros
    cases h
    exact r_end
  replace h := itf h c
  try rw [c]
  obtain ⟨x6, h7, h⟩ := bnd h
  refine go ?_; intros
  refine r_iro rfl rfl h7 rfl ?_
  refine go ?_; intros
  cases h
  exact r_end
theorem d_impl_greatestFirst {G : Gam}  (a0 : (List Bool)) (r : (List Int)) (h : gf_impl_greatestFirst a0 = some r) : Does G if_impl_greatestFirst ks_impl_greatestFirst (c_impl_greatestFirst.args (a0)) [] (c_impl_greatestFirst.ans (a0) r) := by
  refine does_pn (L := [(0, .ro (List.map eBool a0))]) (fun bs => pin) fun bs t o => ?_
  show vwp _ ib_impl_greatestFirst _ _
  unfold ib_impl_greatestFirst
  refine w_ir ?_
  unfold gf_impl_greatestFirst at h
  obtain ⟨q26, h41, h⟩ := bnd h
  refine go ?_; intros
  refine w_last (fun t o => ∃ b39 c40, Pin t (ovr [(3, .ref 40 b39 c40 0 q26.length 17)] t) ∧ PinH o (ovh [(40, ent b39 c40 17 (List.map eInt q26))] o)) ?_ ?_
  · refine w_loop2 (fun n t o => ∃ n31 v27 v28 b29 c30, gl_impl_greatestFirst_1 a0 n31 v27 v28 = some q26 ∧ n31 = n ∧ Pin t (ovr [(0, .ro (List.map eBool a0)), (3, .ref 40 b29 c30 0 v28.length 17), (4, .v (.int .i64 v27))] t) ∧ PinH o (ovh [(40, ent b29 c30 17 (List.map eInt v28))] o)) _ ⟨_, _, _, _, _, h41, rfl, pin, pinh⟩ ?_
    rintro n t o ⟨n31, v27, v28, b29, c30, h41, rfl, pq1, pq2⟩
    refine pinned pq1 pq2 ?_
    cases n31 with
    | zero => rw [gl_impl_greatestFirst_1] at h41; cases h41
    | succ n31 =>
      rw [gl_impl_greatestFirst_1] at h41
      refine go ?_; intros
      refine w_cond rfl (fun c => ?_) (fun c => ?_)
      · replace h41 := itt h41 c
        try rw [c]
        obtain ⟨x32, h33, h41⟩ := bnd h41
        refine go ?_; intros
        refine r_iro rfl rfl h33 rfl ?_
        refine go ?_; intros
        refine w_cond rfl (fun c => ?_) (fun c => ?_)
        · replace h41 := itt h41 c
          try rw [c]
          obtain ⟨h37, h41⟩ := gd h41
          refine go ?_; intros
          refine r_app (f := eInt) (xs := v28) (ys := ([v27] : (List Int))) rfl (src_mv rfl rfl (by first | rfl | simp)) rfl rfl (by first | rfl | simp) h37 fun b35 c36 => ?_
          refine go ?_; intros
          exact k_ln2 _ (Nat.lt_succ_self _) ⟨_, _, _, _, _, h41, rfl, pin, pinh⟩
        replace h41 := itf h41 c
        try rw [c]
        refine go ?_; intros
        exact k_ln2 _ (Nat.lt_succ_self _) ⟨_, _, _, _, _, h41, rfl, pin, pinh⟩
      replace h41 := itf h41 c
      try rw [c]
      refine go ?_; intros
      cases h41
      exact k_cn ⟨_, _, pin, pinh⟩
  rintro t o ⟨b39, c40, pq1, pq2⟩
  refine pinnedQ pq1 pq2 ?_
  refine go ?_; intros
  cases h
  exact r_end
theorem d_impl_RepoPast {G : Gam} (H_impl_RepoOk : Has G c_impl_RepoOk) (H_impl_Repo_version : Has G c_impl_Repo_version) (H_impl_Repo_past : Has G c_impl_Repo_past) (H_impl_greatestFirst : Has G c_impl_greatestFirst) (a0 : Repo) (a1 : Int) (r : (List Int)) (h : gf_impl_RepoPast a0 a1 = some r) : Does G if_impl_RepoPast ks_impl_RepoPast (c_impl_RepoPast.args (a0, a1)) [] (c_impl_RepoPast.ans (a0, a1) r) := by
  refine does_pn (L := [(0, .agg [.ro (List.map (eCommit false) a0.commits), .ro (List.map eHead a0.heads)]), (1, .v (.int .i64 a1))]) (fun bs => pin) fun bs t o => ?_
  show vwp _ ib_impl_RepoPast _ _
  unfold ib_impl_RepoPast
  refine w_ir ?_
  unfold gf_impl_RepoPast at h
  obtain ⟨x2, h3, h⟩ := bnd h
  refine go ?_; intros
  refine c_call (c := c_impl_RepoOk) (a0) H_impl_RepoOk h3 fun ch => ?_
  refine go ?_; intros
  refine s_split rfl (fun c => ?_) (fun c => ?_)
  · replace h := itt h c
    rw [c]
    refine go ?_; intros
    cases h
    exact r_end
  replace h := itf h c
  rw [c]
  obtain ⟨x4, h5, h⟩ := bnd h
  refine go ?_; intros
  refine c_call (c := c_impl_Repo_version) (a0, a1) H_impl_Repo_version h5 fun ch => ?_
  refine go ?_; intros
  refine w_cond rfl (fun c => ?_) (fun c => ?_)
  · replace h := itt h c
    try rw [c]
    refine go ?_; intros
    cases h
    exact r_end
  replace h := itf h c
  try rw [c]
  obtain ⟨x8, h9, h⟩ := bnd h
  refine go ?_; intros
  refine c_call (c := c_impl_Repo_past) (a0, a1) H_impl_Repo_past h9 fun ch => ?_
  obtain ⟨x12, h13, h⟩ := bnd h
  refine go ?_; intros
  refine c_call (c := c_impl_greatestFirst) (x8) H_impl_greatestFirst h13 fun ch => ?_
  refine go ?_; intros
  cases h
  exact r_end
theorem d_slices_Equal_impl_Head_impl_Head {G : Gam}  (a0 : (List Head)) (a1 : (List Head)) (r : Bool) (h : gf_slices_Equal_impl_Head_impl_Head a0 a1 = some r) : Does G if_slices_Equal_impl_Head_impl_Head ks_slices_Equal_impl_Head_impl_Head (c_slices_Equal_impl_Head_impl_Head.args (a0, a1)) [] (c_slices_Equal_impl_Head_impl_Head.ans (a0, a1) r) := by
  refine does_pn (L := [(0, .ro (List.map eHead a0)), (1, .ro (List.map eHead a1))]) (fun bs => pin) fun bs t o => ?_
  show vwp _ ib_slices_Equal_impl_Head_impl_Head _ _
  unfold ib_slices_Equal_impl_Head_impl_Head
  refine w_ir ?_
  unfold gf_slices_Equal_impl_Head_impl_Head at h
  refine go ?_; intros
  refine w_cond rfl (fun c => ?_) (fun c => ?_)
  · replace h := itt h (by first | exact c | (have c2 := c; simp only [List.length_map] at c2; exact c2))
    try rw [c]
    refine go ?_; intros
    cases h
    exact r_end
  replace h := itf h (by first | exact c | (have c2 := c; simp only [List.length_map] at c2; exact c2))
  try rw [c]
  obtain ⟨hf24, h⟩ := gd h
  obtain ⟨q14, h27, h⟩ := bnd h
  refine go ?_; intros
  refine w_last (fun t o => ∃ q14_, q14 = .inr q14_ ∧ Pin t (ovr [] t) ∧ PinH o (ovh [] o)) ?_ ?_
  · refine w_loop2 (fun n t o => ∃ l18 k16  , gl_slices_Equal_impl_Head_impl_Head_1 a1 l18 k16  = some q14 ∧ n = l18.length ∧ (a0).drop k16 = l18 ∧ Pin t (ovr [(0, .ro (List.map eHead a0)), (1, .ro (List.map eHead a1)), (12, .v (.int .i64 (a0.length : Int))), (13, .v (.int .i64 (k16 : Int)))] t) ∧ PinH o (ovh [] o)) _ ⟨_, _, h27, rfl, rfl, pin, pinh⟩ ?_
    rintro n t o ⟨l18, k16, h27, rfl, hd19, pq1, pq2⟩
    refine pinned pq1 pq2 ?_
    cases l18 with
    | nil =>
      have hge21 := drop_ge hd19
      rw [gl_slices_Equal_impl_Head_impl_Head_1] at h27
      refine go ?_; intros
      rw [hge21]
      refine go ?_; intros
      cases h27
      exact k_cn ⟨_, rfl, pin, pinh⟩
    | cons x17 l18 =>
      have hlt20 := drop_lt hd19
      have hx22 := drop_ix hd19
      have hw23 := drop_wr hd19 hf24
      rw [gl_slices_Equal_impl_Head_impl_Head_1] at h27
      refine go ?_; intros
      rw [hlt20]
      refine go ?_; intros
      refine r_iro rfl rfl hx22 rfl ?_
      obtain ⟨x25, h26, h27⟩ := bnd h27
      refine go ?_; intros
      refine r_iro rfl rfl h26 rfl ?_
      refine go ?_; intros
      refine w_cond rfl (fun c => ?_) (fun c => ?_)
      · replace h27 := itt h27 c
        try rw [c]
        refine go ?_; intros
        cases h27
        replace h : some _ = some _ := h
        cases h
        exact r_end
      replace h27 := itf h27 c
      try rw [c]
      refine go ?_; intros
      rw [hw23]
      exact k_ln2 _ (Nat.lt_succ_self _) ⟨_, _, h27, rfl, drop_next hd19, pin, pinh⟩
  rintro t o ⟨q14, rfl, pq1, pq2⟩
  refine pinnedQ pq1 pq2 ?_
  refine go ?_; intros
  cases h
  exact r_end
theorem d_slices_EqualFunc_impl_Commit_impl_Commit_impl_Commit_impl_Commit__impl_sameCommit {G : Gam} (H_impl_sameCommit : Has G c_impl_sameCommit) (a0 : (List Commit)) (a1 : (List Commit)) (r : Bool) (h : gf_slices_EqualFunc_impl_Commit_impl_Commit_impl_Commit_impl_Commit__impl_sameCommit a0 a1 = some r) : Does G if_slices_EqualFunc_impl_Commit_impl_Commit_impl_Commit_impl_Commit ks_slices_EqualFunc_impl_Commit_impl_Commit_impl_Commit_impl_Commit (c_slices_EqualFunc_impl_Commit_impl_Commit_impl_Commit_impl_Commit__impl_sameCommit.args (a0, a1)) [] (c_slices_EqualFunc_impl_Commit_impl_Commit_impl_Commit_impl_Commit__impl_sameCommit.ans (a0, a1) r) := by
  refine does_pn (L := [(0, .ro (List.map (eCommit false) a0)), (1, .ro (List.map (eCommit false) a1)), (2, .fn 330 [])]) (fun bs => pin) fun bs t o => ?_
  show vwp _ ib_slices_EqualFunc_impl_Commit_impl_Commit_impl_Commit_impl_Commit _ _
  unfold ib_slices_EqualFunc_impl_Commit_impl_Commit_impl_Commit_impl_Commit
  refine w_ir ?_
  unfold gf_slices_EqualFunc_impl_Commit_impl_Commit_impl_Commit_impl_Commit__impl_sameCommit at h
  refine go ?_; intros
  refine w_cond rfl (fun c => ?_) (fun c => ?_)
  · replace h := itt h (by first | exact c | (have c2 := c; simp only [List.length_map] at c2; exact c2))
    try rw [c]
    refine go ?_; intros
    cases h
    exact r_end
  replace h := itf h (by first | exact c | (have c2 := c; simp only [List.length_map] at c2; exact c2))
  try rw [c]
  obtain ⟨hf36, h⟩ := gd h
  obtain ⟨q26, h43, h⟩ := bnd h
  refine go ?_; intros
  refine w_last (fun t o => ∃ q26_, q26 = .inr q26_ ∧ Pin t (ovr [] t) ∧ PinH o (ovh [] o)) ?_ ?_
  · refine w_loop2 (fun n t o => ∃ l30 k28  , gl_slices_EqualFunc_impl_Commit_impl_Commit_impl_Commit_impl_Commit__impl_sameCommit_1 a1 l30 k28  = some q26 ∧ n = l30.length ∧ (a0).drop k28 = l30 ∧ Pin t (ovr [(1, .ro (List.map (eCommit false) a1)), (2, .fn 330 []), (15, .ro (List.map (eCommit false) a0)), (16, .v (.int .i64 (a0.length : Int))), (17, .v (.int .i64 (k28 : Int)))] t) ∧ PinH o (ovh [] o)) _ ⟨_, _, h43, rfl, rfl, pin, pinh⟩ ?_
    rintro n t o ⟨l30, k28, h43, rfl, hd31, pq1, pq2⟩
    refine pinned pq1 pq2 ?_
    cases l30 with
    | nil =>
      have hge33 := drop_ge hd31
      rw [gl_slices_EqualFunc_impl_Commit_impl_Commit_impl_Commit_impl_Commit__impl_sameCommit_1] at h43
      refine go ?_; intros
      rw [hge33]
      refine go ?_; intros
      cases h43
      exact k_cn ⟨_, rfl, pin, pinh⟩
    | cons x29 l30 =>
      have hlt32 := drop_lt hd31
      have hx34 := drop_ix hd31
      have hw35 := drop_wr hd31 hf36
      rw [gl_slices_EqualFunc_impl_Commit_impl_Commit_impl_Commit_impl_Commit__impl_sameCommit_1] at h43
      refine go ?_; intros
      rw [hlt32]
      refine go ?_; intros
      refine r_iro rfl rfl hx34 rfl ?_
      obtain ⟨x38, h39, h43⟩ := bnd h43
      refine go ?_; intros
      refine r_iro rfl rfl h39 rfl ?_
      obtain ⟨x41, h42, h43⟩ := bnd h43
      refine go ?_; intros
      refine c_calld (c := c_impl_sameCommit) (x29, x38) H_impl_sameCommit h42 fun ch => ?_
      refine go ?_; intros
      refine w_cond rfl (fun c => ?_) (fun c => ?_)
      · replace h43 := itt h43 c
        try rw [c]
        refine go ?_; intros
        cases h43
        replace h : some _ = some _ := h
        cases h
        exact r_end
      replace h43 := itf h43 c
      try rw [c]
      refine go ?_; intros
      rw [hw35]
      exact k_ln2 _ (Nat.lt_succ_self _) ⟨_, _, h43, rfl, drop_next hd31, pin, pinh⟩
  rintro t o ⟨q26, rfl, pq1, pq2⟩
  refine pinnedQ pq1 pq2 ?_
  refine go ?_; intros
  cases h
  exact r_end
theorem d_impl_RepoSame {G : Gam} (H_slices_EqualFunc_impl_Commit_impl_Commit_impl_Commit_impl_Commit__impl_sameCommit : Has G c_slices_EqualFunc_impl_Commit_impl_Commit_impl_Commit_impl_Commit__impl_sameCommit) (H_slices_Equal_impl_Head_impl_Head : Has G c_slices_Equal_impl_Head_impl_Head) (a0 : Repo) (a1 : Repo) (r : Bool) (h : gf_impl_RepoSame a0 a1 = some r) : Does G if_impl_RepoSame ks_impl_RepoSame (c_impl_RepoSame.args (a0, a1)) [] (c_impl_RepoSame.ans (a0, a1) r) := by
  refine does_pn (L := [(0, .agg [.ro (List.map (eCommit false) a0.commits), .ro (List.map eHead a0.heads)]), (1, .agg [.ro (List.map (eCommit false) a1.commits), .ro (List.map eHead a1.heads)])]) (fun bs => pin) fun bs t o => ?_
  show vwp _ ib_impl_RepoSame _ _
  unfold ib_impl_RepoSame
  refine w_ir ?_
  unfold gf_impl_RepoSame at h
  obtain ⟨x3, h4, h⟩ := bnd h
  refine go ?_; intros
  refine c_call (c := c_slices_EqualFunc_impl_Commit_impl_Commit_impl_Commit_impl_Commit__impl_sameCommit) (a0.commits, a1.commits) H_slices_EqualFunc_impl_Commit_impl_Commit_impl_Commit_impl_Commit__impl_sameCommit h4 fun ch => ?_
  refine go ?_; intros
  refine s_split rfl (fun c => ?_) (fun c => ?_)
  · replace h := itt h c
    rw [c]
    obtain ⟨x5, h6, h⟩ := bnd h
    refine go ?_; intros
    refine c_call (c := c_slices_Equal_impl_Head_impl_Head) (a0.heads, a1.heads) H_slices_Equal_impl_Head_impl_Head h6 fun ch => ?_
    refine go ?_; intros
    cases h
    exact r_end
  replace h := itf h c
  rw [c]
  refine go ?_; intros
  cases h
  exact r_end
theorem d_impl_RepoAdd {G : Gam} (H_impl_RepoOk : Has G c_impl_RepoOk) (H_impl_SheetOk : Has G c_impl_SheetOk) (H_impl_WordOk : Has G c_impl_WordOk) (H_impl_cloneRepo : Has G c_impl_cloneRepo) (H_impl_Repo_head : Has G c_impl_Repo_head) (H_impl_SheetSame : Has G c_impl_SheetSame) (H_impl_Repo_set : Has G c_impl_Repo_set) (a0 : Repo) (a1 : Str) (a2 : (List Feat)) (a3 : Str) (r : (Repo × Int)) (h : gf_impl_RepoAdd a0 a1 a2 a3 = some r) : Does G if_impl_RepoAdd ks_impl_RepoAdd (c_impl_RepoAdd.args (a0, a1, a2, a3)) [] (c_impl_RepoAdd.ans (a0, a1, a2, a3) r) := by
  refine does_pn (L := [(0, .agg [.ro (List.map (eCommit false) a0.commits), .ro (List.map eHead a0.heads)]), (1, .v (.string a1)), (2, .ro (List.map (eFeat false) a2)), (3, .v (.string a3))]) (fun bs => pin) fun bs t o => ?_
  show vwp _ ib_impl_RepoAdd _ _
  unfold ib_impl_RepoAdd
  refine w_ir ?_
  unfold gf_impl_RepoAdd at h
  obtain ⟨x3, h4, h⟩ := bnd h
  refine go ?_; intros
  refine c_call (c := c_impl_RepoOk) (a0) H_impl_RepoOk h4 fun ch => ?_
  refine go ?_; intros
  refine s_split rfl (fun c => ?_) (fun c => ?_)
  · replace h := itt h c
    rw [c]
    refine go ?_; intros
    cases h
    exact r_end
  replace h := itf h c
  rw [c]
  obtain ⟨x5, h6, h⟩ := bnd h
  refine go ?_; intros
  refine c_call (c := c_impl_SheetOk) (a2) H_impl_SheetOk h6 fun ch => ?_
  refine go ?_; intros
  refine s_split rfl (fun c => ?_) (fun c => ?_)
  · replace h := itt h c
    rw [c]
    refine go ?_; intros
    cases h
    exact r_end
  replace h := itf h c
  rw [c]
  obtain ⟨x7, h8, h⟩ := bnd h
  refine go ?_; intros
  refine c_call (c := c_impl_WordOk) (a3) H_impl_WordOk h8 fun ch => ?_
  refine go ?_; intros
  refine w_cond rfl (fun c => ?_) (fun c => ?_)
  · replace h := itt h c
    try rw [c]
    refine go ?_; intros
    cases h
    exact r_end
  replace h := itf h c
  try rw [c]
  obtain ⟨q9, h49, h⟩ := bnd h
  refine go ?_; intros
  refine w_cut (fun t o => ∃ b17 b18 c19 b20 c21 b22 b24 c25 b27 c28 b29, Pin t (ovr [(1, .v (.string a1)), (2, .ro (List.map (eFeat false) a2)), (3, .v (.string a3)), (4, .ptr 32 b17 210 0 0), (8, .ptr 64 b22 210 0 0), (10, .ptr 80 b29 210 0 0)] t) ∧ PinH o (ovh [(32, ⟨b17, 1, 210, true, [[.sl false 3 (List.map (eCommit false) a0.commits), .sl false 2 (List.map eHead a0.heads)]]⟩), (1001024, ent b18 c19 115 (List.map (eCommit true) [])), (1001025, ent b20 c21 130 (List.map eHead [])), (64, ⟨b22, 1, 210, true, [[.al 1001024 b18 c19 0 ([] : List Commit).length 115, .al 1001025 b20 c21 0 ([] : List Head).length 130]]⟩), (1001280, ent b24 c25 115 (List.map (eCommit true) q9.1)), (1001281, ent b27 c28 130 (List.map eHead q9.2)), (80, ⟨b29, 1, 210, true, [[.al 1001280 b24 c25 0 q9.1.length 115, .al 1001281 b27 c28 0 q9.2.length 130]]⟩)] o)) ?_ ?_
  · obtain ⟨x10, h11, h49⟩ := bnd h49
    refine go ?_; intros
    refine c_call (c := c_impl_cloneRepo) (a0) H_impl_cloneRepo h11 fun ch => ?_
    refine go ?_; intros
    cases h49
    exact k_cn ⟨_, _, _, _, _, _, _, _, _, _, _, pin, pinh⟩
  rintro t o ⟨b17, b18, c19, b20, c21, b22, b24, c25, b27, c28, b29, pq1, pq2⟩
  refine pinned pq1 pq2 ?_
  obtain ⟨x30, h31, h⟩ := bnd h
  refine go ?_; intros
  refine c_call (c := c_impl_Repo_head) (a0, a1) H_impl_Repo_head h31 fun ch => ?_
  refine go ?_; intros
  refine w_cond rfl (fun c => ?_) (fun c => ?_)
  · replace h := itt h c
    try rw [c]
    refine go ?_; intros
    cases h
    exact r_end
  replace h := itf h c
  try rw [c]
  obtain ⟨x32, h33, h⟩ := bnd h
  refine go ?_; intros
  refine r_iro rfl rfl h33 rfl ?_
  obtain ⟨x34, h35, h⟩ := bnd h
  refine go ?_; intros
  refine r_iro rfl rfl h35 rfl ?_
  obtain ⟨x36, h37, h⟩ := bnd h
  refine go ?_; intros
  refine c_call (c := c_impl_SheetSame) (x34.sheet, a2) H_impl_SheetSame h37 fun ch => ?_
  refine go ?_; intros
  refine w_cond rfl (fun c => ?_) (fun c => ?_)
  · replace h := itt h c
    try rw [c]
    refine go ?_; intros
    cases h
    exact r_end
  replace h := itf h c
  try rw [c]
  obtain ⟨x39, h40, h⟩ := bnd h
  refine go ?_; intros
  refine c_callg (c := c_impl_Repo_set) ((⟨q9.1, q9.2⟩ : Repo), x30, (⟨[x32.at_], a2, a3⟩ : Commit)) H_impl_Repo_set h40 fun ch => ?_
  refine go ?_; intros
  refine w_cond rfl (fun c => ?_) (fun c => ?_)
  · replace h := itt h c
    try rw [c]
    refine go ?_; intros
    simp only [List.length_map]
    refine go ?_; intros
    cases h
    exact r_end
  replace h := itf h c
  try rw [c]
  refine go ?_; intros
  simp only [List.length_map]
  refine go ?_; intros
  cases h
  exact r_end
theorem d_spec_DrawRepoAdd {G : Gam} (H_spec_l12Open : Has G c_spec_l12Open) (H_spec_l7Bent : Has G c_spec_l7Bent) (H_spec_l7Name : Has G c_spec_l7Name) (H_spec_l3Bent : Has G c_spec_l3Bent) (H_spec_l12Rd_pick : Has G c_spec_l12Rd_pick) (H_spec_l4Near : Has G c_spec_l4Near) (H_spec_l12Rd_of : Has G c_spec_l12Rd_of) (a0 : (List UInt8)) (g0 : Option Addr) (g1 : Nat) (r : (Repo × Str × (List Feat) × Str)) (h : gf_spec_DrawRepoAdd a0 = some r) : Does G if_spec_DrawRepoAdd ks_spec_DrawRepoAdd (c_spec_DrawRepoAdd.args (a0, g0, g1)) [] (c_spec_DrawRepoAdd.ans (a0, g0, g1) r) := by
  refine does_pn (L := [(0, .raw g0 g1 (List.map eU8 a0))]) (fun bs => pin) fun bs t o => ?_
  show vwp _ ib_spec_DrawRepoAdd _ _
  unfold ib_spec_DrawRepoAdd
  refine w_ir ?_
  unfold gf_spec_DrawRepoAdd at h
  obtain ⟨x2, h3, h⟩ := bnd h
  refine go ?_; intros
  refine c_call (c := c_spec_l12Open) (a0, g0, g1) H_spec_l12Open h3 fun ch => ?_
  obtain ⟨x5, h6, h⟩ := bnd h
  refine go ?_; intros
  refine c_callg (c := c_spec_l7Bent) (x2, g0, g1) H_spec_l7Bent h6 fun ch => ?_
  obtain ⟨x12, h13, h⟩ := bnd h
  refine go ?_; intros
  refine c_callg (c := c_spec_l7Name) ((⟨x2.b, x5.2⟩ : Rd), g0, g1) H_spec_l7Name h13 fun ch => ?_
  refine go ?_; intros
  refine r_frz ?_
  obtain ⟨x14, h15, h⟩ := bnd h
  refine go ?_; intros
  refine c_callg (c := c_spec_l3Bent) ((⟨x2.b, x12.2⟩ : Rd), g0, g1) H_spec_l3Bent h15 fun ch => ?_
  refine go ?_; intros
  refine c_fz ?_
  obtain ⟨q26, h51, h⟩ := bnd h
  refine go ?_; intros
  refine w_cut (fun t o => ∃ b36 c37 b38 c39 b40 b42 b43 c44 b45 c46 b47, Pin t (ovr [(2, .ptr 16 b40 210 0 0), (6, .ptr 88 b42 290 0 0), (7, .ptr 56 b47 210 0 0), (8, .v (.string x12.1)), (9, .ro (List.map (eFeat false) q26.1))] t) ∧ PinH o (ovh [(1000256, ent b36 c37 115 (List.map (eCommit true) [])), (1000257, ent b38 c39 130 (List.map eHead [])), (16, ⟨b40, 1, 210, true, [[.al 1000256 b36 c37 0 ([] : List Commit).length 115, .al 1000257 b38 c39 0 ([] : List Head).length 130]]⟩), (88, ⟨b42, 1, 290, true, [[.rw g0 g1 (List.map eU8 x2.b), .v (.int .i64 q26.2)]]⟩), (1000896, ent b43 c44 115 (List.map eCommitX x5.1.commits)), (1000897, ent b45 c46 130 (List.map eHead x5.1.heads)), (56, ⟨b47, 1, 210, true, [[.al 1000896 b43 c44 0 x5.1.commits.length 115, .al 1000897 b45 c46 0 x5.1.heads.length 130]]⟩)] o)) ?_ ?_
  · refine go ?_; intros
    refine s_split rfl (fun c => ?_) (fun c => ?_)
    · replace h51 := itt h51 (by first | exact c | (have c2 := c; simp only [List.length_map] at c2; exact c2))
      rw [c]
      obtain ⟨x27, h28, h51⟩ := bnd h51
      refine go ?_; intros
      refine c_callg (c := c_spec_l12Rd_pick) ((⟨x2.b, x14.2⟩ : Rd), 3, g0, g1) H_spec_l12Rd_pick h28 fun ch => ?_
      refine go ?_; intros
      refine w_cond rfl (fun c => ?_) (fun c => ?_)
      · replace h51 := itt h51 c
        try rw [c]
        obtain ⟨x29, h30, h51⟩ := bnd h51
        refine go ?_; intros
        refine c_callg (c := c_spec_l12Rd_pick) ((⟨x2.b, x27.2⟩ : Rd), (x5.1.commits.length : Int), g0, g1) H_spec_l12Rd_pick h30 fun ch => ?_
        obtain ⟨x31, h32, h51⟩ := bnd h51
        refine go ?_; intros
        refine r_ire (xs := x5.1.commits) rfl rfl h32 rfl ?_
        refine go ?_; intros
        refine r_lde (f := eCommitX) (xs := x5.1.commits) (x := x31) rfl rfl (idx_get h32).2 rfl rfl rfl ?_
        obtain ⟨x33, h34, h51⟩ := bnd h51
        refine go ?_; intros
        refine c_callg (c := c_spec_l4Near) ((⟨x2.b, x29.2⟩ : Rd), x31.sheet, g0, g1) H_spec_l4Near h34 fun ch => ?_
        refine go ?_; intros
        cases h51
        exact k_cn ⟨_, _, _, _, _, _, _, _, _, _, _, pin, pinh⟩
      replace h51 := itf h51 c
      try rw [c]
      refine go ?_; intros
      cases h51
      exact k_cn ⟨_, _, _, _, _, _, _, _, _, _, _, pin, pinh⟩
    replace h51 := itf h51 (by first | exact c | (have c2 := c; simp only [List.length_map] at c2; exact c2))
    rw [c]
    refine go ?_; intros
    cases h51
    exact k_cn ⟨_, _, _, _, _, _, _, _, _, _, _, pin, pinh⟩
  rintro t o ⟨b36, c37, b38, c39, b40, b42, b43, c44, b45, c46, b47, pq1, pq2⟩
  refine pinned pq1 pq2 ?_
  obtain ⟨x49, h50, h⟩ := bnd h
  refine go ?_; intros
  refine c_callg (c := c_spec_l12Rd_of) ((⟨x2.b, q26.2⟩ : Rd), ([(⟨#[97, 110, 110]⟩ : Str), (⟨#[98, 111, 98]⟩ : Str), (⟨#[]⟩ : Str), (⟨#[102, 105, 120]⟩ : Str)] : (List Str)), g0, g1) H_spec_l12Rd_of h50 fun ch => ?_
  refine go ?_; intros
  cases h
  exact r_end
end Go.Proofs.AM
