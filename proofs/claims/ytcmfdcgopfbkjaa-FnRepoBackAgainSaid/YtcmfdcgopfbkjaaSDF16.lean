/- A part of the proofs of this seat's statements (SDF16): lemmas on an abstract machine for the program's functions. Conditions: none. -/
import Derived.Test.YtcmfdcgopfbkjaaSDD
set_option linter.unusedVariables false
set_option maxRecDepth 100000
set_option maxHeartbeats 4000000
namespace Go.Proofs.AM
attribute [local irreducible] vwp vstps vstpLs vstp vdo vret kseq kblk kloop kend kcut kloop2 frzV renV shutK pfzV trnV unrV
theorem d_spec_RepoAdd {G : Gam} (H_spec_RepoOk : Has G c_spec_RepoOk) (H_spec_SheetOk : Has G c_spec_SheetOk) (H_spec_WordOk : Has G c_spec_WordOk) (H_spec_l7Copy : Has G c_spec_l7Copy) (H_spec_l7Head : Has G c_spec_l7Head) (H_spec_SheetSame : Has G c_spec_SheetSame) (H_spec_l7Find : Has G c_spec_l7Find) (H_spec_l7Add : Has G c_spec_l7Add) (a0 : Repo) (a1 : Str) (a2 : (List Feat)) (a3 : Str) (r : (Repo × Int)) (h : gf_spec_RepoAdd a0 a1 a2 a3 = some r) : Does G if_spec_RepoAdd ks_spec_RepoAdd (c_spec_RepoAdd.args (a0, a1, a2, a3)) [] (c_spec_RepoAdd.ans (a0, a1, a2, a3) r) := by
  refine does_pn (L := [(0, .agg [.ro (List.map (eCommit false) a0.commits), .ro (List.map eHead a0.heads)]), (1, .v (.string a1)), (2, .ro (List.map (eFeat false) a2)), (3, .v (.string a3))]) (fun bs => pin) fun bs t o => ?_
  show vwp _ ib_spec_RepoAdd _ _
  unfold ib_spec_RepoAdd
  refine w_ir ?_
  unfold gf_spec_RepoAdd at h
  obtain ⟨x3, h4, h⟩ := bnd h
  refine go ?_; intros
  refine c_call (c := c_spec_RepoOk) (a0) H_spec_RepoOk h4 fun ch => ?_
  refine go ?_; intros
  refine s_split rfl (fun c => ?_) (fun c => ?_)
  · replace h := itt h c
    rw [c]
    refine go ?_; intros
    cases h
    exact r_end
  replace h := itf h c
  rw [c]
  obtain ⟨x5, h6, h⟩ := bnd h
  refine go ?_; intros
  refine c_call (c := c_spec_SheetOk) (a2) H_spec_SheetOk h6 fun ch => ?_
  refine go ?_; intros
  refine s_split rfl (fun c => ?_) (fun c => ?_)
  · replace h := itt h c
    rw [c]
    refine go ?_; intros
    cases h
    exact r_end
  replace h := itf h c
  rw [c]
  obtain ⟨x7, h8, h⟩ := bnd h
  refine go ?_; intros
  refine c_call (c := c_spec_WordOk) (a3) H_spec_WordOk h8 fun ch => ?_
  refine go ?_; intros
  refine w_cond rfl (fun c => ?_) (fun c => ?_)
  · replace h := itt h c
    try rw [c]
    refine go ?_; intros
    cases h
    exact r_end
  replace h := itf h c
  try rw [c]
  obtain ⟨q9, h54, h⟩ := bnd h
  refine go ?_; intros
  refine w_cut (fun t o => ∃ b17 b18 c19 b20 c21 b22 b24 c25 b27 c28 b29, Pin t (ovr [(1, .v (.string a1)), (2, .ro (List.map (eFeat false) a2)), (3, .v (.string a3)), (4, .ptr 32 b17 210 0 0), (8, .ptr 64 b22 210 0 0), (10, .ptr 80 b29 210 0 0)] t) ∧ PinH o (ovh [(32, ⟨b17, 1, 210, true, [[.sl false 3 (List.map (eCommit false) a0.commits), .sl false 2 (List.map eHead a0.heads)]]⟩), (1001024, ent b18 c19 115 (List.map (eCommit true) [])), (1001025, ent b20 c21 130 (List.map eHead [])), (64, ⟨b22, 1, 210, true, [[.al 1001024 b18 c19 0 ([] : List Commit).length 115, .al 1001025 b20 c21 0 ([] : List Head).length 130]]⟩), (1001280, ent b24 c25 115 (List.map (eCommit true) q9.1)), (1001281, ent b27 c28 130 (List.map eHead q9.2)), (80, ⟨b29, 1, 210, true, [[.al 1001280 b24 c25 0 q9.1.length 115, .al 1001281 b27 c28 0 q9.2.length 130]]⟩)] o)) ?_ ?_
  · obtain ⟨x10, h11, h54⟩ := bnd h54
    refine go ?_; intros
    refine c_call (c := c_spec_l7Copy) (a0) H_spec_l7Copy h11 fun ch => ?_
    refine go ?_; intros
    cases h54
    exact k_cn ⟨_, _, _, _, _, _, _, _, _, _, _, pin, pinh⟩
  rintro t o ⟨b17, b18, c19, b20, c21, b22, b24, c25, b27, c28, b29, pq1, pq2⟩
  refine pinned pq1 pq2 ?_
  obtain ⟨x30, h31, h⟩ := bnd h
  refine go ?_; intros
  refine c_call (c := c_spec_l7Head) (a0, a1) H_spec_l7Head h31 fun ch => ?_
  refine go ?_; intros
  refine w_cond rfl (fun c => ?_) (fun c => ?_)
  · replace h := itt h c
    try rw [c]
    refine go ?_; intros
    cases h
    exact r_end
  replace h := itf h c
  try rw [c]
  obtain ⟨x32, h33, h⟩ := bnd h
  refine go ?_; intros
  refine r_iro rfl rfl h33 rfl ?_
  refine go ?_; intros
  refine r_iro rfl rfl h33 rfl ?_
  obtain ⟨x36, h37, h⟩ := bnd h
  refine go ?_; intros
  refine r_iro rfl rfl h37 rfl ?_
  obtain ⟨x38, h39, h⟩ := bnd h
  refine go ?_; intros
  refine c_call (c := c_spec_SheetSame) (x36.sheet, a2) H_spec_SheetSame h39 fun ch => ?_
  refine go ?_; intros
  refine w_cond rfl (fun c => ?_) (fun c => ?_)
  · replace h := itt h c
    try rw [c]
    refine go ?_; intros
    cases h
    exact r_end
  replace h := itf h c
  try rw [c]
  obtain ⟨x40, h41, h⟩ := bnd h
  refine go ?_; intros
  refine c_call (c := c_spec_l7Find) (a0, (⟨[x32.at_], a2, a3⟩ : Commit)) H_spec_l7Find h41 fun ch => ?_
  refine go ?_; intros
  refine s_split rfl (fun c => ?_) (fun c => ?_)
  · replace h := itt h c
    rw [c]
    refine go ?_; intros
    refine w_cond rfl (fun c => ?_) (fun c => ?_)
    · replace h := itt h (by first | exact c | (have c2 := c; simp only [List.length_map] at c2; exact c2))
      try rw [c]
      refine go ?_; intros
      cases h
      exact r_end
    replace h := itf h (by first | exact c | (have c2 := c; simp only [List.length_map] at c2; exact c2))
    try rw [c]
    obtain ⟨x42, h43, h⟩ := bnd h
    refine go ?_; intros
    refine c_callg (c := c_spec_l7Add) ((⟨q9.1, q9.2⟩ : Repo), x30, (⟨[x32.at_], a2, a3⟩ : Commit)) H_spec_l7Add h43 fun ch => ?_
    refine go ?_; intros
    cases h
    exact r_end
  replace h := itf h c
  rw [c]
  obtain ⟨x48, h49, h⟩ := bnd h
  refine go ?_; intros
  refine c_callg (c := c_spec_l7Add) ((⟨q9.1, q9.2⟩ : Repo), x30, (⟨[x32.at_], a2, a3⟩ : Commit)) H_spec_l7Add h49 fun ch => ?_
  refine go ?_; intros
  cases h
  exact r_end
theorem d_laws_FnRepoBackAgain {G : Gam} (H_spec_DrawRepoAdd : Has G c_spec_DrawRepoAdd) (H_impl_RepoAdd : Has G c_impl_RepoAdd) (H_spec_RepoAdd : Has G c_spec_RepoAdd) (H_impl_RepoAt : Has G c_impl_RepoAt) (H_impl_SheetSame : Has G c_impl_SheetSame) (H_impl_RepoPast : Has G c_impl_RepoPast) (H_impl_RepoSame : Has G c_impl_RepoSame) (a0 : (List UInt8)) (g0 : Option Addr) (g1 : Nat) (r : Bool) (h : gf_laws_FnRepoBackAgain a0 = some r) : Does G if_laws_FnRepoBackAgain ks_laws_FnRepoBackAgain (c_laws_FnRepoBackAgain.args (a0, g0, g1)) [] (c_laws_FnRepoBackAgain.ans (a0, g0, g1) r) := by
  refine does_pn (L := [(0, .raw g0 g1 (List.map eU8 a0))]) (fun bs => pin) fun bs t o => ?_
  show vwp _ ib_laws_FnRepoBackAgain _ _
  unfold ib_laws_FnRepoBackAgain
  refine w_ir ?_
  unfold gf_laws_FnRepoBackAgain at h
  refine go ?_; intros
  refine w_cond rfl (fun c => ?_) (fun c => ?_)
  · replace h := itt h (by first | exact c | (have c2 := c; simp only [List.length_map] at c2; exact c2))
    try rw [c]
    refine go ?_; intros
    cases h
    exact r_end
  replace h := itf h (by first | exact c | (have c2 := c; simp only [List.length_map] at c2; exact c2))
  try rw [c]
  refine go ?_; intros
  refine r_frz ?_
  obtain ⟨x1, h2, h⟩ := bnd h
  refine go ?_; intros
  refine c_call (c := c_spec_DrawRepoAdd) (a0, g0, g1) H_spec_DrawRepoAdd h2 fun ch => ?_
  refine go ?_; intros
  refine c_fz ?_
  obtain ⟨q8, h80, h⟩ := bnd h
  refine go ?_; intros
  refine w_cut (fun t o => ∃ b17 b19 c20 b22 c23 b24, Pin t (ovr [(3, .ptr 24 b17 210 0 0), (4, .v (.string x1.2.1)), (5, .ro (List.map (eFeat false) x1.2.2.1)), (6, .v (.string x1.2.2.2)), (7, .ptr 56 b24 210 0 0), (8, .v (.int .i64 q8.1))] t) ∧ PinH o (ovh [(24, ⟨b17, 1, 210, true, [[.sl false 3 (List.map (eCommit false) x1.1.commits), .sl false 2 (List.map eHead x1.1.heads)]]⟩), (1000896, ent b19 c20 115 (List.map (eCommit true) q8.2.1)), (1000897, ent b22 c23 130 (List.map eHead q8.2.2)), (56, ⟨b24, 1, 210, true, [[.al 1000896 b19 c20 0 q8.2.1.length 115, .al 1000897 b22 c23 0 q8.2.2.length 130]]⟩)] o)) ?_ ?_
  · obtain ⟨x9, h10, h80⟩ := bnd h80
    refine go ?_; intros
    refine c_call (c := c_impl_RepoAdd) (x1.1, x1.2.1, x1.2.2.1, x1.2.2.2) H_impl_RepoAdd h10 fun ch => ?_
    refine go ?_; intros
    cases h80
    exact k_cn ⟨_, _, _, _, _, _, pin, pinh⟩
  rintro t o ⟨b17, b19, c20, b22, c23, b24, pq1, pq2⟩
  refine pinned pq1 pq2 ?_
  obtain ⟨x25, h26, h⟩ := bnd h
  refine go ?_; intros
  refine c_call (c := c_spec_RepoAdd) (x1.1, x1.2.1, x1.2.2.1, x1.2.2.2) H_spec_RepoAdd h26 fun ch => ?_
  refine go ?_; intros
  refine s_split rfl (fun c => ?_) (fun c => ?_)
  · replace h := itt h c
    rw [c]
    refine go ?_; intros
    cases h
    exact r_end
  replace h := itf h c
  rw [c]
  refine go ?_; intros
  refine s_split rfl (fun c => ?_) (fun c => ?_)
  · replace h := itt h c
    rw [c]
    refine go ?_; intros
    cases h
    exact r_end
  replace h := itf h c
  rw [c]
  refine go ?_; intros
  refine w_cond rfl (fun c => ?_) (fun c => ?_)
  · replace h := itt h (by first | exact c | (have c2 := c; simp only [List.length_map] at c2; exact c2))
    try rw [c]
    refine go ?_; intros
    cases h
    exact r_end
  replace h := itf h (by first | exact c | (have c2 := c; simp only [List.length_map] at c2; exact c2))
  try rw [c]
  obtain ⟨x32, h33, h⟩ := bnd h
  refine go ?_; intros
  refine c_call (c := c_impl_RepoAt) (x1.1, x1.2.1) H_impl_RepoAt h33 fun ch => ?_
  obtain ⟨x34, h35, h⟩ := bnd h
  refine go ?_; intros
  refine r_iro rfl rfl h35 rfl ?_
  obtain ⟨q36, h81, h⟩ := bnd h
  refine go ?_; intros
  refine w_cut (fun t o => ∃ b45 b47 c48 b50 c51 b52, Pin t (ovr [(3, .ptr 24 b45 210 0 0), (4, .v (.string x1.2.1)), (6, .v (.string x1.2.2.2)), (11, .ro (List.map (eFeat false) x34.sheet)), (12, .ptr 96 b52 210 0 0), (13, .v (.int .i64 q36.1))] t) ∧ PinH o (ovh [(24, ⟨b45, 1, 210, true, [[.sl false 3 (List.map (eCommit false) x1.1.commits), .sl false 2 (List.map eHead x1.1.heads)]]⟩), (1001536, ent b47 c48 115 (List.map (eCommit true) q36.2.1)), (1001537, ent b50 c51 130 (List.map eHead q36.2.2)), (96, ⟨b52, 1, 210, true, [[.al 1001536 b47 c48 0 q36.2.1.length 115, .al 1001537 b50 c51 0 q36.2.2.length 130]]⟩)] o)) ?_ ?_
  · obtain ⟨x37, h38, h81⟩ := bnd h81
    refine go ?_; intros
    refine c_call (c := c_impl_RepoAdd) ((⟨q8.2.1, q8.2.2⟩ : Repo), x1.2.1, x34.sheet, x1.2.2.2) H_impl_RepoAdd h38 fun ch => ?_
    refine go ?_; intros
    cases h81
    exact k_cn ⟨_, _, _, _, _, _, pin, pinh⟩
  rintro t o ⟨b45, b47, c48, b50, c51, b52, pq1, pq2⟩
  refine pinned pq1 pq2 ?_
  obtain ⟨x53, h54, h⟩ := bnd h
  refine go ?_; intros
  refine c_call (c := c_impl_RepoAdd) ((⟨q36.2.1, q36.2.2⟩ : Repo), x1.2.1, x34.sheet, x1.2.2.2) H_impl_RepoAdd h54 fun ch => ?_
  obtain ⟨x60, h61, h⟩ := bnd h
  refine go ?_; intros
  refine c_call (c := c_impl_RepoAt) ((⟨q36.2.1, q36.2.2⟩ : Repo), x1.2.1) H_impl_RepoAt h61 fun ch => ?_
  refine go ?_; intros
  refine s_split rfl (fun c => ?_) (fun c => ?_)
  · replace h := itt h c
    rw [c]
    obtain ⟨x62, h63, h⟩ := bnd h
    refine go ?_; intros
    refine r_ire (xs := q36.2.1) rfl rfl h63 rfl ?_
    refine go ?_; intros
    refine r_lopg (f := (eCommit true)) (g := (eFeat true)) (xs := q36.2.1) (x := x62) (ys := x62.sheet) (idx_get h63).2 rfl rfl rfl fun b64 c65 => ?_
    refine go ?_; intros
    refine r_shut ?_
    obtain ⟨x66, h67, h⟩ := bnd h
    refine go ?_; intros
    refine c_call (c := c_impl_SheetSame) (x62.sheet, x34.sheet) H_impl_SheetSame h67 fun ch => ?_
    refine go ?_; intros
    refine c_shg0 (f := (eCommit true)) (idx_get h63).2 ?_
    refine go ?_; intros
    refine s_split rfl (fun c => ?_) (fun c => ?_)
    · replace h := itt h c
      rw [c]
      obtain ⟨x68, h69, h⟩ := bnd h
      refine go ?_; intros
      refine c_call (c := c_impl_RepoPast) ((⟨q36.2.1, q36.2.2⟩ : Repo), x60) H_impl_RepoPast h69 fun ch => ?_
      obtain ⟨x72, h73, h⟩ := bnd h
      refine go ?_; intros
      refine c_call (c := c_impl_RepoAt) (x1.1, x1.2.1) H_impl_RepoAt h73 fun ch => ?_
      obtain ⟨x74, h75, h⟩ := bnd h
      refine go ?_; intros
      refine c_call (c := c_impl_RepoPast) (x1.1, x72) H_impl_RepoPast h75 fun ch => ?_
      refine go ?_; intros
      refine s_split rfl (fun c => ?_) (fun c => ?_)
      · replace h := itt h (by first | exact c | (have c2 := c; simp only [List.length_map] at c2; exact c2))
        rw [c]
        refine go ?_; intros
        refine s_split rfl (fun c => ?_) (fun c => ?_)
        · replace h := itt h c
          rw [c]
          obtain ⟨x78, h79, h⟩ := bnd h
          refine go ?_; intros
          refine c_call (c := c_impl_RepoSame) (x53.1, (⟨q36.2.1, q36.2.2⟩ : Repo)) H_impl_RepoSame h79 fun ch => ?_
          refine go ?_; intros
          cases h
          exact r_end
        replace h := itf h c
        rw [c]
        refine go ?_; intros
        cases h
        exact r_end
      replace h := itf h (by first | exact c | (have c2 := c; simp only [List.length_map] at c2; exact c2))
      rw [c]
      refine go ?_; intros
      cases h
      exact r_end
    replace h := itf h c
    rw [c]
    refine go ?_; intros
    cases h
    exact r_end
  replace h := itf h c
  rw [c]
  refine go ?_; intros
  cases h
  exact r_end
end Go.Proofs.AM
