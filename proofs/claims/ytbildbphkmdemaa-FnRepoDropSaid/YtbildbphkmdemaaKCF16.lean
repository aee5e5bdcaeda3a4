/- A part of the proofs of this seat's statements (KCF16): lemmas on an abstract machine for the program's functions. Conditions: none. -/
import Derived.Test.YtbildbphkmdemaaKCD
set_option linter.unusedVariables false
set_option maxRecDepth 100000
set_option maxHeartbeats 4000000
namespace Go.Proofs.AM
attribute [local irreducible] vwp vstps vstpLs vstp vdo vret kseq kblk kloop kend kcut kloop2 frzV renV shutK pfzV trnV unrV
theorem d_spec_DrawRepoDrop {G : Gam} (H_spec_DrawRepoAt : Has G c_spec_DrawRepoAt) (a0 : (List UInt8)) (g0 : Option Addr) (g1 : Nat) (r : (Repo × Str)) (h : gf_spec_DrawRepoDrop a0 = some r) : Does G if_spec_DrawRepoDrop ks_spec_DrawRepoDrop (c_spec_DrawRepoDrop.args (a0, g0, g1)) [] (c_spec_DrawRepoDrop.ans (a0, g0, g1) r) := by
  refine does_pn (L := [(0, .raw g0 g1 (List.map eU8 a0))]) (fun bs => pin) fun bs t o => ?_
  show vwp _ ib_spec_DrawRepoDrop _ _
  unfold ib_spec_DrawRepoDrop
  refine w_ir ?_
  unfold gf_spec_DrawRepoDrop at h
  obtain ⟨x2, h3, h⟩ := bnd h
  refine go ?_; intros
  refine c_call (c := c_spec_DrawRepoAt) (a0, g0, g1) H_spec_DrawRepoAt h3 fun ch => ?_
  refine go ?_; intros
  cases h
  exact r_end
theorem d_spec_RepoDrop {G : Gam} (H_spec_RepoOk : Has G c_spec_RepoOk) (H_spec_l7Copy : Has G c_spec_l7Copy) (H_spec_l7Head : Has G c_spec_l7Head) (a0 : Repo) (a1 : Str) (r : (Repo × Int)) (h : gf_spec_RepoDrop a0 a1 = some r) : Does G if_spec_RepoDrop ks_spec_RepoDrop (c_spec_RepoDrop.args (a0, a1)) [] (c_spec_RepoDrop.ans (a0, a1) r) := by
  refine does_pn (L := [(0, .agg [.ro (List.map (eCommit false) a0.commits), .ro (List.map eHead a0.heads)]), (1, .v (.string a1))]) (fun bs => pin) fun bs t o => ?_
  show vwp _ ib_spec_RepoDrop _ _
  unfold ib_spec_RepoDrop
  refine w_ir ?_
  unfold gf_spec_RepoDrop at h
  obtain ⟨x3, h4, h⟩ := bnd h
  refine go ?_; intros
  refine c_call (c := c_spec_RepoOk) (a0) H_spec_RepoOk h4 fun ch => ?_
  refine go ?_; intros
  refine w_cond rfl (fun c => ?_) (fun c => ?_)
  · replace h := itt h c
    try rw [c]
    refine go ?_; intros
    cases h
    exact r_end
  replace h := itf h c
  try rw [c]
  obtain ⟨q5, h33, h⟩ := bnd h
  refine go ?_; intros
  refine w_cut (fun t o => ∃ b13 b14 c15 b16 c17 b18 b20 c21 b23 c24 b25, Pin t (ovr [(1, .v (.string a1)), (2, .ptr 16 b13 210 0 0), (4, .ptr 32 b18 210 0 0), (6, .ptr 48 b25 210 0 0)] t) ∧ PinH o (ovh [(16, ⟨b13, 1, 210, true, [[.sl false 3 (List.map (eCommit false) a0.commits), .sl false 2 (List.map eHead a0.heads)]]⟩), (1000512, ent b14 c15 115 (List.map (eCommit true) [])), (1000513, ent b16 c17 130 (List.map eHead [])), (32, ⟨b18, 1, 210, true, [[.al 1000512 b14 c15 0 ([] : List Commit).length 115, .al 1000513 b16 c17 0 ([] : List Head).length 130]]⟩), (1000768, ent b20 c21 115 (List.map (eCommit true) q5.1)), (1000769, ent b23 c24 130 (List.map eHead q5.2)), (48, ⟨b25, 1, 210, true, [[.al 1000768 b20 c21 0 q5.1.length 115, .al 1000769 b23 c24 0 q5.2.length 130]]⟩)] o)) ?_ ?_
  · obtain ⟨x6, h7, h33⟩ := bnd h33
    refine go ?_; intros
    refine c_call (c := c_spec_l7Copy) (a0) H_spec_l7Copy h7 fun ch => ?_
    refine go ?_; intros
    cases h33
    exact k_cn ⟨_, _, _, _, _, _, _, _, _, _, _, pin, pinh⟩
  rintro t o ⟨b13, b14, c15, b16, c17, b18, b20, c21, b23, c24, b25, pq1, pq2⟩
  refine pinned pq1 pq2 ?_
  obtain ⟨x26, h27, h⟩ := bnd h
  refine go ?_; intros
  refine c_call (c := c_spec_l7Head) (a0, a1) H_spec_l7Head h27 fun ch => ?_
  refine go ?_; intros
  refine w_cond rfl (fun c => ?_) (fun c => ?_)
  · replace h := itt h c
    try rw [c]
    refine go ?_; intros
    cases h
    exact r_end
  replace h := itf h c
  try rw [c]
  refine go ?_; intros
  refine w_cond rfl (fun c => ?_) (fun c => ?_)
  · replace h := itt h (by first | exact c | (have c2 := c; simp only [List.length_map] at c2; exact c2))
    try rw [c]
    refine go ?_; intros
    cases h
    exact r_end
  replace h := itf h (by first | exact c | (have c2 := c; simp only [List.length_map] at c2; exact c2))
  try rw [c]
  obtain ⟨x28, h29, h⟩ := bnd h
  refine go ?_; intros
  refine r_slr (xs := q5.2) h29 rfl rfl rfl rfl (by first | rfl | simp) ?_
  obtain ⟨x30, h31, h⟩ := bnd h
  refine go ?_; intros
  refine r_slw (xs := q5.2) h31 rfl rfl rfl rfl (by first | rfl | simp) ?_
  refine go ?_; intros
  refine r_trn ?_
  obtain ⟨h32, h⟩ := gd h
  refine go ?_; intros
  refine r_ainv (f := eHead) (xs := q5.2) h29 h31 h32 rfl rfl rfl (fun _ => rfl) ?_
  refine go ?_; intros
  refine r_trv (f := eHead) (xs := (x28 ++ x30 ++ q5.2.drop (x28.length + x30.length))) (ys := (x28 ++ x30)) rfl rfl tk_eq tk_le ?_
  refine go ?_; intros
  cases h
  exact r_end
theorem d_laws_FnRepoDrop {G : Gam} (H_spec_DrawRepoDrop : Has G c_spec_DrawRepoDrop) (H_impl_RepoDrop : Has G c_impl_RepoDrop) (H_spec_RepoDrop : Has G c_spec_RepoDrop) (H_impl_RepoSame : Has G c_impl_RepoSame) (H_impl_RepoAt : Has G c_impl_RepoAt) (H_spec_RepoAt : Has G c_spec_RepoAt) (H_impl_RepoSweep : Has G c_impl_RepoSweep) (a0 : (List UInt8)) (g0 : Option Addr) (g1 : Nat) (r : Bool) (h : gf_laws_FnRepoDrop a0 = some r) : Does G if_laws_FnRepoDrop ks_laws_FnRepoDrop (c_laws_FnRepoDrop.args (a0, g0, g1)) [] (c_laws_FnRepoDrop.ans (a0, g0, g1) r) := by
  refine does_pn (L := [(0, .raw g0 g1 (List.map eU8 a0))]) (fun bs => pin) fun bs t o => ?_
  show vwp _ ib_laws_FnRepoDrop _ _
  unfold ib_laws_FnRepoDrop
  refine w_ir ?_
  unfold gf_laws_FnRepoDrop at h
  refine go ?_; intros
  refine w_cond rfl (fun c => ?_) (fun c => ?_)
  · replace h := itt h (by first | exact c | (have c2 := c; simp only [List.length_map] at c2; exact c2))
    try rw [c]
    refine go ?_; intros
    cases h
    exact r_end
  replace h := itf h (by first | exact c | (have c2 := c; simp only [List.length_map] at c2; exact c2))
  try rw [c]
  refine go ?_; intros
  refine r_frz ?_
  obtain ⟨x1, h2, h⟩ := bnd h
  refine go ?_; intros
  refine c_call (c := c_spec_DrawRepoDrop) (a0, g0, g1) H_spec_DrawRepoDrop h2 fun ch => ?_
  refine go ?_; intros
  refine c_fz ?_
  obtain ⟨q8, h89, h⟩ := bnd h
  refine go ?_; intros
  refine w_cut (fun t o => ∃ b17 b20, Pin t (ovr [(3, .ptr 24 b17 210 0 0), (4, .v (.string x1.2)), (5, .ptr 40 b20 210 0 0), (6, .v (.int .i64 q8.1))] t) ∧ PinH o (ovh [(24, ⟨b17, 1, 210, true, [[.sl false 3 (List.map (eCommit false) x1.1.commits), .sl false 2 (List.map eHead x1.1.heads)]]⟩), (40, ⟨b20, 1, 210, true, [[.sl false 3 (List.map (eCommit false) q8.2.1), .sl false 2 (List.map eHead q8.2.2)]]⟩)] o)) ?_ ?_
  · refine go ?_; intros
    refine r_frz ?_
    obtain ⟨x9, h10, h89⟩ := bnd h89
    refine go ?_; intros
    refine c_call (c := c_impl_RepoDrop) (x1.1, x1.2) H_impl_RepoDrop h10 fun ch => ?_
    refine go ?_; intros
    refine c_fz ?_
    refine go ?_; intros
    cases h89
    exact k_cn ⟨_, _, pin, pinh⟩
  rintro t o ⟨b17, b20, pq1, pq2⟩
  refine pinned pq1 pq2 ?_
  obtain ⟨x21, h22, h⟩ := bnd h
  refine go ?_; intros
  refine c_call (c := c_spec_RepoDrop) (x1.1, x1.2) H_spec_RepoDrop h22 fun ch => ?_
  refine go ?_; intros
  refine s_split rfl (fun c => ?_) (fun c => ?_)
  · replace h := itt h c
    rw [c]
    refine go ?_; intros
    cases h
    exact r_end
  replace h := itf h c
  rw [c]
  obtain ⟨x28, h29, h⟩ := bnd h
  refine go ?_; intros
  refine c_call (c := c_impl_RepoSame) ((⟨q8.2.1, q8.2.2⟩ : Repo), x21.1) H_impl_RepoSame h29 fun ch => ?_
  refine go ?_; intros
  refine s_split rfl (fun c => ?_) (fun c => ?_)
  · replace h := itt h c
    rw [c]
    refine go ?_; intros
    cases h
    exact r_end
  replace h := itf h c
  rw [c]
  obtain ⟨x30, h31, h⟩ := bnd h
  refine go ?_; intros
  refine c_call (c := c_impl_RepoAt) (x1.1, x1.2) H_impl_RepoAt h31 fun ch => ?_
  obtain ⟨x32, h33, h⟩ := bnd h
  refine go ?_; intros
  refine c_call (c := c_spec_RepoAt) (x1.1, x1.2) H_spec_RepoAt h33 fun ch => ?_
  refine go ?_; intros
  refine w_cond rfl (fun c => ?_) (fun c => ?_)
  · replace h := itt h c
    try rw [c]
    refine go ?_; intros
    cases h
    exact r_end
  replace h := itf h c
  try rw [c]
  refine go ?_; intros
  refine w_cond rfl (fun c => ?_) (fun c => ?_)
  · replace h := itt h c
    try rw [c]
    refine go ?_; intros
    refine s_split rfl (fun c => ?_) (fun c => ?_)
    · replace h := itt h c
      rw [c]
      refine go ?_; intros
      cases h
      exact r_end
    replace h := itf h c
    rw [c]
    obtain ⟨x34, h35, h⟩ := bnd h
    refine go ?_; intros
    refine c_call (c := c_impl_RepoSame) ((⟨q8.2.1, q8.2.2⟩ : Repo), x1.1) H_impl_RepoSame h35 fun ch => ?_
    refine go ?_; intros
    refine s_split rfl (fun c => ?_) (fun c => ?_)
    · replace h := itt h c
      rw [c]
      obtain ⟨x36, h37, h⟩ := bnd h
      refine go ?_; intros
      refine c_call (c := c_impl_RepoAt) (x1.1, x1.2) H_impl_RepoAt h37 fun ch => ?_
      refine go ?_; intros
      cases h
      exact r_end
    replace h := itf h c
    rw [c]
    refine go ?_; intros
    cases h
    exact r_end
  replace h := itf h c
  try rw [c]
  obtain ⟨hf67, h⟩ := gd h
  obtain ⟨q55, h90, h⟩ := bnd h
  refine go ?_; intros
  refine w_last (fun t o => ∃ q55_, q55 = .inr q55_ ∧ ∃ b70 b71, Pin t (ovr [(3, .ptr 24 b70 210 0 0), (4, .v (.string x1.2)), (5, .ptr 40 b71 210 0 0)] t) ∧ PinH o (ovh [(24, ⟨b70, 1, 210, true, [[.sl false 3 (List.map (eCommit false) x1.1.commits), .sl false 2 (List.map eHead x1.1.heads)]]⟩), (40, ⟨b71, 1, 210, true, [[.sl false 3 (List.map (eCommit false) q8.2.1), .sl false 2 (List.map eHead q8.2.2)]]⟩)] o)) ?_ ?_
  · refine w_loop2 (fun n t o => ∃ l61 k59  b57 b58, gl_laws_FnRepoDrop_1 x1 q8 l61 k59  = some q55 ∧ n = l61.length ∧ (x1.1.heads).drop k59 = l61 ∧ Pin t (ovr [(3, .ptr 24 b57 210 0 0), (4, .v (.string x1.2)), (5, .ptr 40 b58 210 0 0), (9, .v (.int .i64 (k59 : Int)))] t) ∧ PinH o (ovh [(24, ⟨b57, 1, 210, true, [[.sl false 3 (List.map (eCommit false) x1.1.commits), .sl false 2 (List.map eHead x1.1.heads)]]⟩), (40, ⟨b58, 1, 210, true, [[.sl false 3 (List.map (eCommit false) q8.2.1), .sl false 2 (List.map eHead q8.2.2)]]⟩)] o)) _ ⟨_, _, _, _, h90, rfl, rfl, pin, pinh⟩ ?_
    rintro n t o ⟨l61, k59, b57, b58, h90, rfl, hd62, pq1, pq2⟩
    refine pinned pq1 pq2 ?_
    cases l61 with
    | nil =>
      have hge64 := drop_ge hd62
      rw [gl_laws_FnRepoDrop_1] at h90
      refine go ?_; intros
      rw [hge64]
      refine go ?_; intros
      cases h90
      exact k_cn ⟨_, rfl, _, _, pin, pinh⟩
    | cons x60 l61 =>
      have hlt63 := drop_lt hd62
      have hx65 := drop_ix hd62
      have hw66 := drop_wr hd62 hf67
      rw [gl_laws_FnRepoDrop_1] at h90
      refine go ?_; intros
      rw [hlt63]
      refine go ?_; intros
      refine r_iro rfl rfl hx65 rfl ?_
      refine go ?_; intros
      refine s_split rfl (fun c => ?_) (fun c => ?_)
      · replace h90 := itt h90 c
        rw [c]
        refine go ?_; intros
        refine r_iro rfl rfl hx65 rfl ?_
        obtain ⟨x68, h69, h90⟩ := bnd h90
        refine go ?_; intros
        refine c_call (c := c_impl_RepoAt) ((⟨q8.2.1, q8.2.2⟩ : Repo), x60.name) H_impl_RepoAt h69 fun ch => ?_
        refine go ?_; intros
        refine r_iro rfl rfl hx65 rfl ?_
        refine go ?_; intros
        refine w_cond rfl (fun c => ?_) (fun c => ?_)
        · replace h90 := itt h90 c
          try rw [c]
          refine go ?_; intros
          cases h90
          replace h : some _ = some _ := h
          cases h
          exact r_end
        replace h90 := itf h90 c
        try rw [c]
        refine go ?_; intros
        rw [hw66]
        exact k_ln2 _ (Nat.lt_succ_self _) ⟨_, _, _, _, h90, rfl, drop_next hd62, pin, pinh⟩
      replace h90 := itf h90 c
      rw [c]
      refine go ?_; intros
      rw [hw66]
      exact k_ln2 _ (Nat.lt_succ_self _) ⟨_, _, _, _, h90, rfl, drop_next hd62, pin, pinh⟩
  rintro t o ⟨q55, rfl, b70, b71, pq1, pq2⟩
  refine pinnedQ pq1 pq2 ?_
  obtain ⟨x73, h74, h⟩ := bnd h
  refine go ?_; intros
  refine c_call (c := c_impl_RepoAt) ((⟨q8.2.1, q8.2.2⟩ : Repo), x1.2) H_impl_RepoAt h74 fun ch => ?_
  refine go ?_; intros
  refine s_split rfl (fun c => ?_) (fun c => ?_)
  · replace h := itt h c
    rw [c]
    refine go ?_; intros
    refine s_split rfl (fun c => ?_) (fun c => ?_)
    · replace h := itt h (by first | exact c | (have c2 := c; simp only [List.length_map] at c2; exact c2))
      rw [c]
      obtain ⟨x75, h76, h⟩ := bnd h
      refine go ?_; intros
      refine c_call (c := c_impl_RepoSame) ((⟨q8.2.1, x1.1.heads⟩ : Repo), x1.1) H_impl_RepoSame h76 fun ch => ?_
      refine go ?_; intros
      refine s_split rfl (fun c => ?_) (fun c => ?_)
      · replace h := itt h c
        rw [c]
        obtain ⟨x77, h78, h⟩ := bnd h
        refine go ?_; intros
        refine c_call (c := c_impl_RepoSweep) ((⟨q8.2.1, q8.2.2⟩ : Repo)) H_impl_RepoSweep h78 fun ch => ?_
        obtain ⟨x83, h84, h⟩ := bnd h
        refine go ?_; intros
        refine c_call (c := c_impl_RepoSweep) (x1.1) H_impl_RepoSweep h84 fun ch => ?_
        refine go ?_; intros
        cases h
        exact r_end
      replace h := itf h c
      rw [c]
      refine go ?_; intros
      cases h
      exact r_end
    replace h := itf h (by first | exact c | (have c2 := c; simp only [List.length_map] at c2; exact c2))
    rw [c]
    refine go ?_; intros
    cases h
    exact r_end
  replace h := itf h c
  rw [c]
  refine go ?_; intros
  cases h
  exact r_end
end Go.Proofs.AM
