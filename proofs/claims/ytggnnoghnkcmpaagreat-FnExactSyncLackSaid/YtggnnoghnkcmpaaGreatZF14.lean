/- A part of the proofs of this seat's statements (ZF14): lemmas on an abstract machine for the program's functions. Conditions: none. -/
import Derived.Test.YtggnnoghnkcmpaaGreatZD
set_option linter.unusedVariables false
set_option maxRecDepth 100000
set_option maxHeartbeats 4000000
namespace Go.Proofs.AM
attribute [local irreducible] vwp vstps vstpLs vstp vdo vret kseq kblk kloop kend kcut kloop2 frzV renV shutK
theorem d_spec_SyncLack {G : Gam} (H_spec_RepoAt : Has G c_spec_RepoAt) (H_spec_RepoOk : Has G c_spec_RepoOk) (H_spec_l7Marks : Has G c_spec_l7Marks) (H_spec_l10Find : Has G c_spec_l10Find) (a0 : Repo) (a1 : Repo) (a2 : Str) (r : (List Int)) (h : gf_spec_SyncLack a0 a1 a2 = some r) : Does G if_spec_SyncLack ks_spec_SyncLack (c_spec_SyncLack.args (a0, a1, a2)) [] (c_spec_SyncLack.ans (a0, a1, a2) r) := by
  refine does_pn (L := [(0, .agg [.ro (List.map (eCommit false) a0.commits), .ro (List.map eHead a0.heads)]), (1, .agg [.ro (List.map (eCommit false) a1.commits), .ro (List.map eHead a1.heads)]), (2, .v (.string a2))]) (fun bs => pin) fun bs t o => ?_
  show vwp _ ib_spec_SyncLack _ _
  unfold ib_spec_SyncLack
  unfold gf_spec_SyncLack at h
  obtain ⟨x4, h5, h⟩ := bnd h
  refine go ?_; intros
  refine c_call (c := c_spec_RepoAt) (a1, a2) H_spec_RepoAt h5 fun ch => ?_
  obtain ⟨x6, h7, h⟩ := bnd h
  refine go ?_; intros
  refine c_call (c := c_spec_RepoOk) (a0) H_spec_RepoOk h7 fun ch => ?_
  refine go ?_; intros
  refine s_split rfl (fun c => ?_) (fun c => ?_)
  · replace h := itt h c
    rw [c]
    refine go ?_; intros
    cases h
    exact r_end
  replace h := itf h c
  rw [c]
  refine go ?_; intros
  refine w_cond rfl (fun c => ?_) (fun c => ?_)
  · replace h := itt h c
    try rw [c]
    refine go ?_; intros
    cases h
    exact r_end
  replace h := itf h c
  try rw [c]
  obtain ⟨x9, h10, h⟩ := bnd h
  refine go ?_; intros
  refine c_call (c := c_spec_l7Marks) (a1, ([x4] : (List Int))) H_spec_l7Marks h10 fun ch => ?_
  obtain ⟨hf68, h⟩ := gd h
  obtain ⟨q51, h80, h⟩ := bnd h
  refine go ?_; intros
  refine w_last (fun t o => ∃ b78 c79, Pin t (ovr [(7, .ref 88 b78 c79 0 q51.length 17)] t) ∧ PinH o (ovh [(88, ent b78 c79 17 (List.map eInt q51))] o)) ?_ ?_
  · refine w_loop2 (fun n t o => ∃ l62 k60 v55 b53 b54 b56 c57 b58 c59, gl_spec_SyncLack_1 x9 a0 a1 l62 k60 v55 = some q51 ∧ n = l62.length ∧ (a1.commits).drop k60 = l62 ∧ Pin t (ovr [(3, .ptr 24 b53 210 0 0), (4, .ptr 32 b54 210 0 0), (7, .ref 88 b56 c57 0 v55.length 17), (9, .ref 208 b58 c59 0 x9.length 33), (10, .v (.int .i64 (k60 : Int)))] t) ∧ PinH o (ovh [(24, ⟨b53, 1, 210, true, [[.sl false 3 (List.map (eCommit false) a0.commits), .sl false 2 (List.map eHead a0.heads)]]⟩), (32, ⟨b54, 1, 210, true, [[.sl false 3 (List.map (eCommit false) a1.commits), .sl false 2 (List.map eHead a1.heads)]]⟩), (88, ent b56 c57 17 (List.map eInt v55)), (208, ent b58 c59 33 (List.map eBool x9))] o)) _ ⟨_, _, _, _, _, _, _, _, _, h80, rfl, rfl, pin, pinh⟩ ?_
    rintro n t o ⟨l62, k60, v55, b53, b54, b56, c57, b58, c59, h80, rfl, hd63, q1, q2⟩
    refine pinned q1 q2 ?_
    cases l62 with
    | nil =>
      have hge65 := drop_ge hd63
      rw [gl_spec_SyncLack_1] at h80
      refine go ?_; intros
      rw [hge65]
      refine go ?_; intros
      cases h80
      exact k_cn ⟨_, _, pin, pinh⟩
    | cons x61 l62 =>
      have hlt64 := drop_lt hd63
      have hx66 := drop_ix hd63
      have hw67 := drop_wr hd63 hf68
      rw [gl_spec_SyncLack_1] at h80
      refine go ?_; intros
      rw [hlt64]
      obtain ⟨x69, h70, h80⟩ := bnd h80
      refine go ?_; intros
      refine r_ire (xs := x9) rfl rfl h70 rfl ?_
      refine go ?_; intros
      refine r_lde (f := eBool) (xs := x9) (x := x69) rfl rfl (idx_get h70).2 rfl rfl rfl ?_
      refine go ?_; intros
      refine s_split rfl (fun c => ?_) (fun c => ?_)
      · replace h80 := itt h80 c
        rw [c]
        obtain ⟨x71, h72, h80⟩ := bnd h80
        refine go ?_; intros
        refine c_call (c := c_spec_l10Find) (a0, a1, (k60 : Int)) H_spec_l10Find h72 fun ch => ?_
        refine go ?_; intros
        refine w_cond rfl (fun c => ?_) (fun c => ?_)
        · replace h80 := itt h80 c
          try rw [c]
          obtain ⟨h76, h80⟩ := gd h80
          refine go ?_; intros
          refine r_app (f := eInt) (xs := v55) (ys := ([(k60 : Int)] : (List Int))) rfl (src_mv rfl rfl (by first | rfl | simp)) rfl rfl (by first | rfl | simp) h76 fun b74 c75 => ?_
          refine go ?_; intros
          rw [hw67]
          exact k_ln2 _ (Nat.lt_succ_self _) ⟨_, _, _, _, _, _, _, _, _, h80, rfl, drop_next hd63, pin, pinh⟩
        replace h80 := itf h80 c
        try rw [c]
        refine go ?_; intros
        rw [hw67]
        exact k_ln2 _ (Nat.lt_succ_self _) ⟨_, _, _, _, _, _, _, _, _, h80, rfl, drop_next hd63, pin, pinh⟩
      replace h80 := itf h80 c
      rw [c]
      refine go ?_; intros
      rw [hw67]
      exact k_ln2 _ (Nat.lt_succ_self _) ⟨_, _, _, _, _, _, _, _, _, h80, rfl, drop_next hd63, pin, pinh⟩
  rintro t o ⟨b78, c79, q1, q2⟩
  refine pinnedQ q1 q2 ?_
  refine go ?_; intros
  cases h
  exact r_end
theorem d_laws_FnExactSyncLack {G : Gam} (H_laws_szRepo : Has G c_laws_szRepo) (H_laws_toRepo : Has G c_laws_toRepo) (H_spec_SyncLack : Has G c_spec_SyncLack) (H_impl_SyncLack : Has G c_impl_SyncLack) (H_laws_eqIntS : Has G c_laws_eqIntS) (H_laws_eqRepo : Has G c_laws_eqRepo) (H_laws_markRepo : Has G c_laws_markRepo) (H_laws_markIntS : Has G c_laws_markIntS) (H_laws_heldIntS : Has G c_laws_heldIntS) (a0 : Repo) (a1 : Repo) (a2 : Str) (r : Bool) (h : gf_laws_FnExactSyncLack a0 a1 a2 = some r) : Does G if_laws_FnExactSyncLack ks_laws_FnExactSyncLack (c_laws_FnExactSyncLack.args (a0, a1, a2)) [] (c_laws_FnExactSyncLack.ans (a0, a1, a2) r) := by
  refine does_pn (L := [(0, .agg [.ro (List.map (eCommit false) a0.commits), .ro (List.map eHead a0.heads)]), (1, .agg [.ro (List.map (eCommit false) a1.commits), .ro (List.map eHead a1.heads)]), (2, .v (.string a2))]) (fun bs => pin) fun bs t o => ?_
  show vwp _ ib_laws_FnExactSyncLack _ _
  unfold ib_laws_FnExactSyncLack
  unfold gf_laws_FnExactSyncLack at h
  refine go ?_; intros
  refine w_cond rfl (fun c => ?_) (fun c => ?_)
  · replace h := itt h c
    try rw [c]
    refine go ?_; intros
    cases h
    exact r_end
  replace h := itf h c
  try rw [c]
  obtain ⟨x3, h4, h⟩ := bnd h
  refine go ?_; intros
  refine c_call (c := c_laws_szRepo) (a0, 1048576) H_laws_szRepo h4 fun ch => ?_
  refine go ?_; intros
  refine w_cond rfl (fun c => ?_) (fun c => ?_)
  · replace h := itt h c
    try rw [c]
    refine go ?_; intros
    cases h
    exact r_end
  replace h := itf h c
  try rw [c]
  obtain ⟨x5, h6, h⟩ := bnd h
  refine go ?_; intros
  refine c_call (c := c_laws_szRepo) (a1, x3) H_laws_szRepo h6 fun ch => ?_
  refine go ?_; intros
  refine w_cond rfl (fun c => ?_) (fun c => ?_)
  · replace h := itt h c
    try rw [c]
    refine go ?_; intros
    cases h
    exact r_end
  replace h := itf h c
  try rw [c]
  obtain ⟨x7, h8, h⟩ := bnd h
  refine go ?_; intros
  refine c_call (c := c_laws_toRepo) (a0) H_laws_toRepo h8 fun ch => ?_
  obtain ⟨x13, h14, h⟩ := bnd h
  refine go ?_; intros
  refine c_call (c := c_laws_toRepo) (a1) H_laws_toRepo h14 fun ch => ?_
  obtain ⟨x19, h20, h⟩ := bnd h
  refine go ?_; intros
  refine c_call (c := c_spec_SyncLack) (x7, x13, a2) H_spec_SyncLack h20 fun ch => ?_
  obtain ⟨q23, h114, h⟩ := bnd h
  refine go ?_; intros
  refine w_cut (fun t o => ∃ b31 b32 b33 c34 b36 c37 b39 c40 b41, Pin t (ovr [(2, .v (.string a2)), (3, .ptr 24 b31 466 0 0), (4, .ptr 32 b32 466 0 0), (8, .ref 272 b33 c34 0 x19.length 17), (9, .ptr 72 b41 210 0 0)] t) ∧ PinH o (ovh [(24, ⟨b31, 1, 466, true, [[.sl false 3 (List.map (eCommit false) a0.commits), .sl false 2 (List.map eHead a0.heads)]]⟩), (32, ⟨b32, 1, 466, true, [[.sl false 3 (List.map (eCommit false) a1.commits), .sl false 2 (List.map eHead a1.heads)]]⟩), (272, ent b33 c34 17 (List.map eInt x19)), (1001152, ent b36 c37 115 (List.map (eCommit true) q23.1)), (1001153, ent b39 c40 130 (List.map eHead q23.2)), (72, ⟨b41, 1, 210, true, [[.al 1001152 b36 c37 0 q23.1.length 115, .al 1001153 b39 c40 0 q23.2.length 130]]⟩)] o)) ?_ ?_
  · obtain ⟨x24, h25, h114⟩ := bnd h114
    refine go ?_; intros
    refine c_call (c := c_laws_toRepo) (a0) H_laws_toRepo h25 fun ch => ?_
    refine go ?_; intros
    cases h114
    exact k_cn ⟨_, _, _, _, _, _, _, _, _, pin, pinh⟩
  rintro t o ⟨b31, b32, b33, c34, b36, c37, b39, c40, b41, q1, q2⟩
  refine pinned q1 q2 ?_
  obtain ⟨x42, h43, h⟩ := bnd h
  refine go ?_; intros
  refine c_call (c := c_laws_toRepo) (a1) H_laws_toRepo h43 fun ch => ?_
  obtain ⟨x49, h50, h⟩ := bnd h
  refine go ?_; intros
  refine c_call (c := c_impl_SyncLack) ((⟨q23.1, q23.2⟩ : Repo), x42, a2) H_impl_SyncLack h50 fun ch => ?_
  obtain ⟨x53, h54, h⟩ := bnd h
  refine go ?_; intros
  refine c_call (c := c_laws_eqIntS) (x49, x19) H_laws_eqIntS h54 fun ch => ?_
  refine go ?_; intros
  refine w_cond rfl (fun c => ?_) (fun c => ?_)
  · replace h := itt h c
    try rw [c]
    refine go ?_; intros
    cases h
    exact r_end
  replace h := itf h c
  try rw [c]
  obtain ⟨x55, h56, h⟩ := bnd h
  refine go ?_; intros
  refine c_call (c := c_laws_toRepo) (a0) H_laws_toRepo h56 fun ch => ?_
  obtain ⟨x61, h62, h⟩ := bnd h
  refine go ?_; intros
  refine c_call (c := c_laws_eqRepo) ((⟨q23.1, q23.2⟩ : Repo), x55) H_laws_eqRepo h62 fun ch => ?_
  refine go ?_; intros
  refine w_cond rfl (fun c => ?_) (fun c => ?_)
  · replace h := itt h c
    try rw [c]
    refine go ?_; intros
    cases h
    exact r_end
  replace h := itf h c
  try rw [c]
  obtain ⟨x63, h64, h⟩ := bnd h
  refine go ?_; intros
  refine c_call (c := c_laws_toRepo) (a1) H_laws_toRepo h64 fun ch => ?_
  obtain ⟨x69, h70, h⟩ := bnd h
  refine go ?_; intros
  refine c_call (c := c_laws_eqRepo) (x42, x63) H_laws_eqRepo h70 fun ch => ?_
  refine go ?_; intros
  refine w_cond rfl (fun c => ?_) (fun c => ?_)
  · replace h := itt h c
    try rw [c]
    refine go ?_; intros
    cases h
    exact r_end
  replace h := itf h c
  try rw [c]
  obtain ⟨q71, h115, h⟩ := bnd h
  refine go ?_; intros
  refine w_cut (fun t o => ∃ b75 b76 b77 c78 b79 c80 b81 c82 b83 b84 c85, Pin t (ovr [(2, .v (.string a2)), (3, .ptr 24 b75 466 0 0), (4, .ptr 32 b76 466 0 0), (8, .ref 272 b77 c78 0 x19.length 17), (10, .ptr 80 b83 210 0 0), (11, .ref 336 b84 c85 0 x49.length 17), (12, .v (.int .i64 q71))] t) ∧ PinH o (ovh [(24, ⟨b75, 1, 466, true, [[.sl false 3 (List.map (eCommit false) a0.commits), .sl false 2 (List.map eHead a0.heads)]]⟩), (32, ⟨b76, 1, 466, true, [[.sl false 3 (List.map (eCommit false) a1.commits), .sl false 2 (List.map eHead a1.heads)]]⟩), (272, ent b77 c78 17 (List.map eInt x19)), (1001280, ent b79 c80 115 (List.map (eCommit true) x42.commits)), (1001281, ent b81 c82 130 (List.map eHead x42.heads)), (80, ⟨b83, 1, 210, true, [[.al 1001280 b79 c80 0 x42.commits.length 115, .al 1001281 b81 c82 0 x42.heads.length 130]]⟩), (336, ent b84 c85 17 (List.map eInt x49))] o)) ?_ ?_
  · obtain ⟨x72, h73, h115⟩ := bnd h115
    refine go ?_; intros
    have L73 := l_laws_markRepo h73; refine c_callg (c := c_laws_markRepo) ((⟨q23.1, q23.2⟩ : Repo), 1) H_laws_markRepo h73 fun ch => ?_
    refine go ?_; intros
    cases h115
    exact k_cn ⟨_, _, _, _, _, _, _, _, _, _, _, pin, pinh⟩
  rintro t o ⟨b75, b76, b77, c78, b79, c80, b81, c82, b83, b84, c85, q1, q2⟩
  refine pinned q1 q2 ?_
  obtain ⟨x86, h87, h⟩ := bnd h
  refine go ?_; intros
  have L87 := l_laws_markRepo h87; refine c_callg (c := c_laws_markRepo) (x42, q71) H_laws_markRepo h87 fun ch => ?_
  refine go ?_; intros
  refine s_split rfl (fun c => ?_) (fun c => ?_)
  · replace h := itt h c
    rw [c]
    refine go ?_; intros
    cases h
    exact r_end
  replace h := itf h c
  rw [c]
  obtain ⟨x88, h89, h⟩ := bnd h
  refine go ?_; intros
  refine c_call (c := c_laws_eqIntS) (x49, x19) H_laws_eqIntS h89 fun ch => ?_
  refine go ?_; intros
  refine w_cond rfl (fun c => ?_) (fun c => ?_)
  · replace h := itt h c
    try rw [c]
    refine go ?_; intros
    cases h
    exact r_end
  replace h := itf h c
  try rw [c]
  obtain ⟨x90, h91, h⟩ := bnd h
  refine go ?_; intros
  have L91 := l_laws_markIntS h91; refine c_callg (c := c_laws_markIntS) (x49, 1) H_laws_markIntS h91 fun ch => ?_
  obtain ⟨x92, h93, h⟩ := bnd h
  refine go ?_; intros
  refine c_call (c := c_laws_heldIntS) (x90.2, 1) H_laws_heldIntS h93 fun ch => ?_
  refine go ?_; intros
  refine w_cond rfl (fun c => ?_) (fun c => ?_)
  · replace h := itt h c
    try rw [c]
    refine go ?_; intros
    cases h
    exact r_end
  replace h := itf h c
  try rw [c]
  refine go ?_; intros
  refine w_cond rfl (fun c => ?_) (fun c => ?_)
  · replace h := itt h c
    try rw [c]
    refine go ?_; intros
    cases h
    exact r_end
  replace h := itf h c
  try rw [c]
  obtain ⟨x94, h95, h⟩ := bnd h
  refine go ?_; intros
  refine c_call (c := c_laws_toRepo) (a0) H_laws_toRepo h95 fun ch => ?_
  obtain ⟨x100, h101, h⟩ := bnd h
  refine go ?_; intros
  refine c_call (c := c_laws_toRepo) (a1) H_laws_toRepo h101 fun ch => ?_
  obtain ⟨x106, h107, h⟩ := bnd h
  refine go ?_; intros
  refine c_call (c := c_impl_SyncLack) (x94, x100, a2) H_impl_SyncLack h107 fun ch => ?_
  obtain ⟨x110, h111, h⟩ := bnd h
  refine go ?_; intros
  refine c_call (c := c_laws_eqIntS) (x106, x19) H_laws_eqIntS h111 fun ch => ?_
  refine go ?_; intros
  refine w_cond rfl (fun c => ?_) (fun c => ?_)
  · replace h := itt h c
    try rw [c]
    refine go ?_; intros
    cases h
    exact r_end
  replace h := itf h c
  try rw [c]
  obtain ⟨x112, h113, h⟩ := bnd h
  refine go ?_; intros
  refine c_call (c := c_laws_heldIntS) (x90.2, 1) H_laws_heldIntS h113 fun ch => ?_
  refine go ?_; intros
  refine w_cond rfl (fun c => ?_) (fun c => ?_)
  · replace h := itt h c
    try rw [c]
    refine go ?_; intros
    cases h
    exact r_end
  replace h := itf h c
  try rw [c]
  refine go ?_; intros
  refine w_cond rfl (fun c => ?_) (fun c => ?_)
  · replace h := itt h c
    try rw [c]
    refine go ?_; intros
    cases h
    exact r_end
  replace h := itf h c
  try rw [c]
  refine go ?_; intros
  cases h
  exact r_end
end Go.Proofs.AM
