/- A part of the proofs of this seat's statements (ZF13): lemmas on an abstract machine for the program's functions. Conditions: none. -/
import Derived.Test.YtggnnoghnkcmpaaGreatZD
set_option linter.unusedVariables false
set_option maxRecDepth 100000
set_option maxHeartbeats 4000000
namespace Go.Proofs.AM
attribute [local irreducible] vwp vstps vstpLs vstp vdo vret kseq kblk kloop kend kcut kloop2 frzV renV shutK
theorem d_impl_SyncFind_1 {G : Gam}  (a0 : (List Bool)) (a1 : Int) (r : Bool) (h : gf_impl_SyncFind_1 a0 a1 = some r) : Does G if_impl_SyncFind_1 ks_impl_SyncFind_1 (c_impl_SyncFind_1.args (a0, a1)) [] (c_impl_SyncFind_1.ans (a0, a1) r) := by
  refine does_pn (L := [(0, .ro (List.map eBool a0)), (1, .rptr [.v (.int .i64 a1)])]) (fun bs => pin) fun bs t o => ?_
  show vwp _ ib_impl_SyncFind_1 _ _
  unfold ib_impl_SyncFind_1
  unfold gf_impl_SyncFind_1 at h
  obtain ⟨x1, h2, h⟩ := bnd h
  refine go ?_; intros
  refine r_iro rfl rfl h2 rfl ?_
  refine go ?_; intros
  cases h
  exact r_end
theorem d_slices_IndexFunc_bool_bool__impl_SyncFind_1 {G : Gam} (H_impl_SyncFind_1 : Has G c_impl_SyncFind_1) (a0 : (List (List Bool))) (a1 : Int) (r : Int) (h : gf_slices_IndexFunc_bool_bool__impl_SyncFind_1 a0 a1 = some r) : Does G if_slices_IndexFunc_bool_bool ks_slices_IndexFunc_bool_bool (c_slices_IndexFunc_bool_bool__impl_SyncFind_1.args (a0, a1)) [] (c_slices_IndexFunc_bool_bool__impl_SyncFind_1.ans (a0, a1) r) := by
  refine does_pn (L := [(0, .ro (List.map (eSl false 33 eBool) a0)), (1, .fn 322 [.rptr [.v (.int .i64 a1)]])]) (fun bs => pin) fun bs t o => ?_
  show vwp _ ib_slices_IndexFunc_bool_bool _ _
  unfold ib_slices_IndexFunc_bool_bool
  unfold gf_slices_IndexFunc_bool_bool__impl_SyncFind_1 at h
  obtain ⟨hf24, h⟩ := gd h
  obtain ⟨q14, h27, h⟩ := bnd h
  refine go ?_; intros
  refine w_last (fun t o => ∃ q14_, q14 = .inr q14_ ∧ Pin t (ovr [] t) ∧ PinH o (ovh [] o)) ?_ ?_
  · refine w_loop2 (fun n t o => ∃ l18 k16  , gl_slices_IndexFunc_bool_bool__impl_SyncFind_1_1 a1 l18 k16  = some q14 ∧ n = l18.length ∧ (a0).drop k16 = l18 ∧ Pin t (ovr [(0, .ro (List.map (eSl false 33 eBool) a0)), (1, .fn 322 [.rptr [.v (.int .i64 a1)]]), (7, .v (.int .i64 (a0.length : Int))), (8, .v (.int .i64 (k16 : Int)))] t) ∧ PinH o (ovh [] o)) _ ⟨_, _, h27, rfl, rfl, pin, pinh⟩ ?_
    rintro n t o ⟨l18, k16, h27, rfl, hd19, q1, q2⟩
    refine pinned q1 q2 ?_
    cases l18 with
    | nil =>
      have hge21 := drop_ge hd19
      rw [gl_slices_IndexFunc_bool_bool__impl_SyncFind_1_1] at h27
      refine go ?_; intros
      rw [hge21]
      refine go ?_; intros
      cases h27
      exact k_cn ⟨_, rfl, pin, pinh⟩
    | cons x17 l18 =>
      have hlt20 := drop_lt hd19
      have hx22 := drop_ix hd19
      have hw23 := drop_wr hd19 hf24
      rw [gl_slices_IndexFunc_bool_bool__impl_SyncFind_1_1] at h27
      refine go ?_; intros
      rw [hlt20]
      refine go ?_; intros
      refine r_iro rfl rfl hx22 rfl ?_
      obtain ⟨x25, h26, h27⟩ := bnd h27
      refine go ?_; intros
      refine c_calld (c := c_impl_SyncFind_1) (x17, a1) H_impl_SyncFind_1 h26 fun ch => ?_
      refine go ?_; intros
      refine w_cond rfl (fun c => ?_) (fun c => ?_)
      · replace h27 := itt h27 c
        try rw [c]
        refine go ?_; intros
        cases h27
        replace h : some _ = some _ := h
        cases h
        exact r_end
      replace h27 := itf h27 c
      try rw [c]
      refine go ?_; intros
      rw [hw23]
      exact k_ln2 _ (Nat.lt_succ_self _) ⟨_, _, h27, rfl, drop_next hd19, pin, pinh⟩
  rintro t o ⟨q14, rfl, q1, q2⟩
  refine pinnedQ q1 q2 ?_
  refine go ?_; intros
  cases h
  exact r_end
theorem d_impl_SyncFind {G : Gam} (H_impl_RepoOk : Has G c_impl_RepoOk) (H_impl_Repo_version : Has G c_impl_Repo_version) (H_impl_alike : Has G c_impl_alike) (H_slices_IndexFunc_bool_bool__impl_SyncFind_1 : Has G c_slices_IndexFunc_bool_bool__impl_SyncFind_1) (a0 : Repo) (a1 : Repo) (a2 : Int) (r : Int) (h : gf_impl_SyncFind a0 a1 a2 = some r) : Does G if_impl_SyncFind ks_impl_SyncFind (c_impl_SyncFind.args (a0, a1, a2)) [] (c_impl_SyncFind.ans (a0, a1, a2) r) := by
  refine does_pn (L := [(0, .agg [.ro (List.map (eCommit false) a0.commits), .ro (List.map eHead a0.heads)]), (1, .agg [.ro (List.map (eCommit false) a1.commits), .ro (List.map eHead a1.heads)]), (2, .v (.int .i64 a2))]) (fun bs => pin) fun bs t o => ?_
  show vwp _ ib_impl_SyncFind _ _
  unfold ib_impl_SyncFind
  unfold gf_impl_SyncFind at h
  obtain ⟨x4, h5, h⟩ := bnd h
  refine go ?_; intros
  refine c_call (c := c_impl_RepoOk) (a0) H_impl_RepoOk h5 fun ch => ?_
  refine go ?_; intros
  refine s_split rfl (fun c => ?_) (fun c => ?_)
  · replace h := itt h c
    rw [c]
    refine go ?_; intros
    cases h
    exact r_end
  replace h := itf h c
  rw [c]
  obtain ⟨x6, h7, h⟩ := bnd h
  refine go ?_; intros
  refine c_call (c := c_impl_RepoOk) (a1) H_impl_RepoOk h7 fun ch => ?_
  refine go ?_; intros
  refine s_split rfl (fun c => ?_) (fun c => ?_)
  · replace h := itt h c
    rw [c]
    refine go ?_; intros
    cases h
    exact r_end
  replace h := itf h c
  rw [c]
  obtain ⟨x8, h9, h⟩ := bnd h
  refine go ?_; intros
  refine c_call (c := c_impl_Repo_version) (a1, a2) H_impl_Repo_version h9 fun ch => ?_
  refine go ?_; intros
  refine w_cond rfl (fun c => ?_) (fun c => ?_)
  · replace h := itt h c
    try rw [c]
    refine go ?_; intros
    cases h
    exact r_end
  replace h := itf h c
  try rw [c]
  obtain ⟨x10, h11, h⟩ := bnd h
  refine go ?_; intros
  refine c_call (c := c_impl_alike) (a0, a1) H_impl_alike h11 fun ch => ?_
  obtain ⟨x14, h15, h⟩ := bnd h
  refine go ?_; intros
  refine c_call (c := c_slices_IndexFunc_bool_bool__impl_SyncFind_1) (x10, a2) H_slices_IndexFunc_bool_bool__impl_SyncFind_1 h15 fun ch => ?_
  refine go ?_; intros
  cases h
  exact r_end
theorem d_spec_l10Find {G : Gam} (H_spec_l10Same : Has G (c_spec_l10Same rounds)) (a0 : Repo) (a1 : Repo) (a2 : Int) (r : Int) (h : gf_spec_l10Find a0 a1 a2 = some r) : Does G if_spec_l10Find ks_spec_l10Find (c_spec_l10Find.args (a0, a1, a2)) [] (c_spec_l10Find.ans (a0, a1, a2) r) := by
  refine does_pn (L := [(0, .agg [.ro (List.map (eCommit false) a0.commits), .ro (List.map eHead a0.heads)]), (1, .agg [.ro (List.map (eCommit false) a1.commits), .ro (List.map eHead a1.heads)]), (2, .v (.int .i64 a2))]) (fun bs => pin) fun bs t o => ?_
  show vwp _ ib_spec_l10Find _ _
  unfold ib_spec_l10Find
  unfold gf_spec_l10Find at h
  obtain ⟨hf26, h⟩ := gd h
  obtain ⟨q14, h29, h⟩ := bnd h
  refine go ?_; intros
  refine w_last (fun t o => ∃ q14_, q14 = .inr q14_ ∧ Pin t (ovr [] t) ∧ PinH o (ovh [] o)) ?_ ?_
  · refine w_loop2 (fun n t o => ∃ l20 k18  b16 b17, gl_spec_l10Find_1 a0 a1 a2 l20 k18  = some q14 ∧ n = l20.length ∧ (a0.commits).drop k18 = l20 ∧ Pin t (ovr [(2, .v (.int .i64 a2)), (3, .ptr 24 b16 210 0 0), (4, .ptr 32 b17 210 0 0), (7, .v (.int .i64 (k18 : Int)))] t) ∧ PinH o (ovh [(24, ⟨b16, 1, 210, true, [[.sl false 3 (List.map (eCommit false) a0.commits), .sl false 2 (List.map eHead a0.heads)]]⟩), (32, ⟨b17, 1, 210, true, [[.sl false 3 (List.map (eCommit false) a1.commits), .sl false 2 (List.map eHead a1.heads)]]⟩)] o)) _ ⟨_, _, _, _, h29, rfl, rfl, pin, pinh⟩ ?_
    rintro n t o ⟨l20, k18, b16, b17, h29, rfl, hd21, q1, q2⟩
    refine pinned q1 q2 ?_
    cases l20 with
    | nil =>
      have hge23 := drop_ge hd21
      rw [gl_spec_l10Find_1] at h29
      refine go ?_; intros
      rw [hge23]
      refine go ?_; intros
      cases h29
      exact k_cn ⟨_, rfl, pin, pinh⟩
    | cons x19 l20 =>
      have hlt22 := drop_lt hd21
      have hx24 := drop_ix hd21
      have hw25 := drop_wr hd21 hf26
      rw [gl_spec_l10Find_1] at h29
      refine go ?_; intros
      rw [hlt22]
      obtain ⟨x27, h28, h29⟩ := bnd h29
      refine go ?_; intros
      refine c_call (c := (c_spec_l10Same rounds)) (a0, (k18 : Int), a1, a2) H_spec_l10Same h28 fun ch => ?_
      refine go ?_; intros
      refine w_cond rfl (fun c => ?_) (fun c => ?_)
      · replace h29 := itt h29 c
        try rw [c]
        refine go ?_; intros
        cases h29
        replace h : some _ = some _ := h
        cases h
        exact r_end
      replace h29 := itf h29 c
      try rw [c]
      refine go ?_; intros
      rw [hw25]
      exact k_ln2 _ (Nat.lt_succ_self _) ⟨_, _, _, _, h29, rfl, drop_next hd21, pin, pinh⟩
  rintro t o ⟨q14, rfl, q1, q2⟩
  refine pinnedQ q1 q2 ?_
  refine go ?_; intros
  cases h
  exact r_end
theorem d_spec_RepoAt {G : Gam} (H_spec_l7Head : Has G c_spec_l7Head) (H_spec_RepoOk : Has G c_spec_RepoOk) (a0 : Repo) (a1 : Str) (r : Int) (h : gf_spec_RepoAt a0 a1 = some r) : Does G if_spec_RepoAt ks_spec_RepoAt (c_spec_RepoAt.args (a0, a1)) [] (c_spec_RepoAt.ans (a0, a1) r) := by
  refine does_pn (L := [(0, .agg [.ro (List.map (eCommit false) a0.commits), .ro (List.map eHead a0.heads)]), (1, .v (.string a1))]) (fun bs => pin) fun bs t o => ?_
  show vwp _ ib_spec_RepoAt _ _
  unfold ib_spec_RepoAt
  unfold gf_spec_RepoAt at h
  obtain ⟨x2, h3, h⟩ := bnd h
  refine go ?_; intros
  refine c_call (c := c_spec_l7Head) (a0, a1) H_spec_l7Head h3 fun ch => ?_
  obtain ⟨x4, h5, h⟩ := bnd h
  refine go ?_; intros
  refine c_call (c := c_spec_RepoOk) (a0) H_spec_RepoOk h5 fun ch => ?_
  refine go ?_; intros
  refine s_split rfl (fun c => ?_) (fun c => ?_)
  · replace h := itt h c
    rw [c]
    refine go ?_; intros
    cases h
    exact r_end
  replace h := itf h c
  rw [c]
  refine go ?_; intros
  refine w_cond rfl (fun c => ?_) (fun c => ?_)
  · replace h := itt h c
    try rw [c]
    refine go ?_; intros
    cases h
    exact r_end
  replace h := itf h c
  try rw [c]
  obtain ⟨x6, h7, h⟩ := bnd h
  refine go ?_; intros
  refine r_iro rfl rfl h7 rfl ?_
  refine go ?_; intros
  cases h
  exact r_end
theorem d_impl_SyncLack {G : Gam} (H_impl_RepoOk : Has G c_impl_RepoOk) (H_impl_Repo_head : Has G c_impl_Repo_head) (H_impl_Repo_past : Has G c_impl_Repo_past) (H_impl_SyncFind : Has G c_impl_SyncFind) (a0 : Repo) (a1 : Repo) (a2 : Str) (r : (List Int)) (h : gf_impl_SyncLack a0 a1 a2 = some r) : Does G if_impl_SyncLack ks_impl_SyncLack (c_impl_SyncLack.args (a0, a1, a2)) [] (c_impl_SyncLack.ans (a0, a1, a2) r) := by
  refine does_pn (L := [(0, .agg [.ro (List.map (eCommit false) a0.commits), .ro (List.map eHead a0.heads)]), (1, .agg [.ro (List.map (eCommit false) a1.commits), .ro (List.map eHead a1.heads)]), (2, .v (.string a2))]) (fun bs => pin) fun bs t o => ?_
  show vwp _ ib_impl_SyncLack _ _
  unfold ib_impl_SyncLack
  unfold gf_impl_SyncLack at h
  obtain ⟨x4, h5, h⟩ := bnd h
  refine go ?_; intros
  refine c_call (c := c_impl_RepoOk) (a0) H_impl_RepoOk h5 fun ch => ?_
  refine go ?_; intros
  refine s_split rfl (fun c => ?_) (fun c => ?_)
  · replace h := itt h c
    rw [c]
    refine go ?_; intros
    cases h
    exact r_end
  replace h := itf h c
  rw [c]
  obtain ⟨x6, h7, h⟩ := bnd h
  refine go ?_; intros
  refine c_call (c := c_impl_RepoOk) (a1) H_impl_RepoOk h7 fun ch => ?_
  refine go ?_; intros
  refine s_split rfl (fun c => ?_) (fun c => ?_)
  · replace h := itt h c
    rw [c]
    refine go ?_; intros
    cases h
    exact r_end
  replace h := itf h c
  rw [c]
  obtain ⟨x8, h9, h⟩ := bnd h
  refine go ?_; intros
  refine c_call (c := c_impl_Repo_head) (a1, a2) H_impl_Repo_head h9 fun ch => ?_
  refine go ?_; intros
  refine w_cond rfl (fun c => ?_) (fun c => ?_)
  · replace h := itt h c
    try rw [c]
    refine go ?_; intros
    cases h
    exact r_end
  replace h := itf h c
  try rw [c]
  obtain ⟨x10, h11, h⟩ := bnd h
  refine go ?_; intros
  refine c_call (c := c_impl_Repo_head) (a1, a2) H_impl_Repo_head h11 fun ch => ?_
  obtain ⟨x12, h13, h⟩ := bnd h
  refine go ?_; intros
  refine r_iro rfl rfl h13 rfl ?_
  obtain ⟨x14, h15, h⟩ := bnd h
  refine go ?_; intros
  refine c_call (c := c_impl_Repo_past) (a1, x12.at_) H_impl_Repo_past h15 fun ch => ?_
  obtain ⟨hf73, h⟩ := gd h
  obtain ⟨q56, h83, h⟩ := bnd h
  refine go ?_; intros
  refine w_last (fun t o => ∃ b81 c82, Pin t (ovr [(7, .ref 80 b81 c82 0 q56.length 17)] t) ∧ PinH o (ovh [(80, ent b81 c82 17 (List.map eInt q56))] o)) ?_ ?_
  · refine w_loop2 (fun n t o => ∃ l67 k65 v60 b58 b59 b61 c62 b63 c64, gl_impl_SyncLack_1 a0 a1 l67 k65 v60 = some q56 ∧ n = l67.length ∧ (x14).drop k65 = l67 ∧ Pin t (ovr [(3, .ptr 24 b58 210 0 0), (4, .ptr 32 b59 210 0 0), (7, .ref 80 b61 c62 0 v60.length 17), (35, .ref 280 b63 c64 0 x14.length 33), (36, .v (.int .i64 (x14.length : Int))), (37, .v (.int .i64 (k65 : Int)))] t) ∧ PinH o (ovh [(24, ⟨b58, 1, 210, true, [[.sl false 3 (List.map (eCommit false) a0.commits), .sl false 2 (List.map eHead a0.heads)]]⟩), (32, ⟨b59, 1, 210, true, [[.sl false 3 (List.map (eCommit false) a1.commits), .sl false 2 (List.map eHead a1.heads)]]⟩), (80, ent b61 c62 17 (List.map eInt v60)), (280, ent b63 c64 33 (List.map eBool x14))] o)) _ ⟨_, _, _, _, _, _, _, _, _, h83, rfl, rfl, pin, pinh⟩ ?_
    rintro n t o ⟨l67, k65, v60, b58, b59, b61, c62, b63, c64, h83, rfl, hd68, q1, q2⟩
    refine pinned q1 q2 ?_
    cases l67 with
    | nil =>
      have hge70 := drop_ge hd68
      rw [gl_impl_SyncLack_1] at h83
      refine go ?_; intros
      rw [hge70]
      refine go ?_; intros
      cases h83
      exact k_cn ⟨_, _, pin, pinh⟩
    | cons x66 l67 =>
      have hlt69 := drop_lt hd68
      have hx71 := drop_ix hd68
      have hw72 := drop_wr hd68 hf73
      rw [gl_impl_SyncLack_1] at h83
      refine go ?_; intros
      rw [hlt69]
      refine go ?_; intros
      refine r_ire (xs := x14) rfl rfl hx71 rfl ?_
      refine go ?_; intros
      refine r_lde (f := eBool) (xs := x14) (x := x66) rfl rfl (idx_get hx71).2 rfl rfl rfl ?_
      refine go ?_; intros
      refine s_split rfl (fun c => ?_) (fun c => ?_)
      · replace h83 := itt h83 c
        rw [c]
        obtain ⟨x74, h75, h83⟩ := bnd h83
        refine go ?_; intros
        refine c_call (c := c_impl_SyncFind) (a0, a1, (k65 : Int)) H_impl_SyncFind h75 fun ch => ?_
        refine go ?_; intros
        refine w_cond rfl (fun c => ?_) (fun c => ?_)
        · replace h83 := itt h83 c
          try rw [c]
          obtain ⟨h79, h83⟩ := gd h83
          refine go ?_; intros
          refine r_app (f := eInt) (xs := v60) (ys := ([(k65 : Int)] : (List Int))) rfl (src_mv rfl rfl (by first | rfl | simp)) rfl rfl (by first | rfl | simp) h79 fun b77 c78 => ?_
          refine go ?_; intros
          rw [hw72]
          exact k_ln2 _ (Nat.lt_succ_self _) ⟨_, _, _, _, _, _, _, _, _, h83, rfl, drop_next hd68, pin, pinh⟩
        replace h83 := itf h83 c
        try rw [c]
        refine go ?_; intros
        rw [hw72]
        exact k_ln2 _ (Nat.lt_succ_self _) ⟨_, _, _, _, _, _, _, _, _, h83, rfl, drop_next hd68, pin, pinh⟩
      replace h83 := itf h83 c
      rw [c]
      refine go ?_; intros
      rw [hw72]
      exact k_ln2 _ (Nat.lt_succ_self _) ⟨_, _, _, _, _, _, _, _, _, h83, rfl, drop_next hd68, pin, pinh⟩
  rintro t o ⟨b81, c82, q1, q2⟩
  refine pinnedQ q1 q2 ?_
  refine go ?_; intros
  cases h
  exact r_end
end Go.Proofs.AM
