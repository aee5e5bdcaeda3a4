/- A part of the proofs of this seat's statements (SAF16): lemmas on an abstract machine for the program's functions. Conditions: none. -/
import Derived.Test.YtcmfdcgopfbkjaaSAD
set_option linter.unusedVariables false
set_option linter.unusedSimpArgs false
set_option maxRecDepth 100000
set_option maxHeartbeats 4000000
namespace Go.Proofs.AM
attribute [local irreducible] vwp vstps vstpLs vstp vdo vret kseq kblk kloop kend kcut kloop2 frzV renV shutK pfzV trnV unrV
theorem d_impl_RepoSame {G : Gam} (H_slices_EqualFunc_impl_Commit_impl_Commit_impl_Commit_impl_Commit__impl_sameCommit : Has G c_slices_EqualFunc_impl_Commit_impl_Commit_impl_Commit_impl_Commit__impl_sameCommit) (H_slices_Equal_impl_Head_impl_Head : Has G c_slices_Equal_impl_Head_impl_Head) (a0 : Repo) (a1 : Repo) (r : Bool) (h : gf_impl_RepoSame a0 a1 = some r) : Does G if_impl_RepoSame ks_impl_RepoSame (c_impl_RepoSame.args (a0, a1)) [] (c_impl_RepoSame.ans (a0, a1) r) := by
  refine does_pn (L := [(0, .agg [.ro (List.map (eCommit false) a0.commits), .ro (List.map eHead a0.heads)]), (1, .agg [.ro (List.map (eCommit false) a1.commits), .ro (List.map eHead a1.heads)])]) (fun bs => pin) fun bs t o => ?_
  show vwp _ ib_impl_RepoSame _ _
  unfold ib_impl_RepoSame
  refine w_ir ?_
  unfold gf_impl_RepoSame at h
  obtain ⟨x3, h4, h⟩ := bnd h
  refine go ?_; intros
  refine c_call (c := c_slices_EqualFunc_impl_Commit_impl_Commit_impl_Commit_impl_Commit__impl_sameCommit) (a0.commits, a1.commits) H_slices_EqualFunc_impl_Commit_impl_Commit_impl_Commit_impl_Commit__impl_sameCommit h4 fun ch => ?_
  refine go ?_; intros
  refine s_split rfl (fun c => ?_) (fun c => ?_)
  · replace h := itt h c
    rw [c]
    obtain ⟨x5, h6, h⟩ := bnd h
    refine go ?_; intros
    refine c_call (c := c_slices_Equal_impl_Head_impl_Head) (a0.heads, a1.heads) H_slices_Equal_impl_Head_impl_Head h6 fun ch => ?_
    refine go ?_; intros
    cases h
    exact r_end
  replace h := itf h c
  rw [c]
  refine go ?_; intros
  cases h
  exact r_end
theorem d_spec_DrawRepoSweep {G : Gam} (H_spec_l12Open : Has G c_spec_l12Open) (H_spec_l7Bent : Has G c_spec_l7Bent) (a0 : (List UInt8)) (g0 : Option Addr) (g1 : Nat) (r : Repo) (h : gf_spec_DrawRepoSweep a0 = some r) : Does G if_spec_DrawRepoSweep ks_spec_DrawRepoSweep (c_spec_DrawRepoSweep.args (a0, g0, g1)) [] (c_spec_DrawRepoSweep.ans (a0, g0, g1) r) := by
  refine does_pn (L := [(0, .raw g0 g1 (List.map eU8 a0))]) (fun bs => pin) fun bs t o => ?_
  show vwp _ ib_spec_DrawRepoSweep _ _
  unfold ib_spec_DrawRepoSweep
  refine w_ir ?_
  unfold gf_spec_DrawRepoSweep at h
  obtain ⟨x2, h3, h⟩ := bnd h
  refine go ?_; intros
  refine c_call (c := c_spec_l12Open) (a0, g0, g1) H_spec_l12Open h3 fun ch => ?_
  obtain ⟨x5, h6, h⟩ := bnd h
  refine go ?_; intros
  refine c_callg (c := c_spec_l7Bent) (x2, g0, g1) H_spec_l7Bent h6 fun ch => ?_
  refine go ?_; intros
  cases h
  exact r_end
theorem d_impl_RepoSweep {G : Gam} (H_impl_RepoOk : Has G c_impl_RepoOk) (H_impl_Repo_past : Has G c_impl_Repo_past) (H_impl_cloneCommit : Has G c_impl_cloneCommit) (a0 : Repo) (r : Repo) (h : gf_impl_RepoSweep a0 = some r) : Does G if_impl_RepoSweep ks_impl_RepoSweep (c_impl_RepoSweep.args (a0)) [] (c_impl_RepoSweep.ans (a0) r) := by
  refine does_pn (L := [(0, .agg [.ro (List.map (eCommit false) a0.commits), .ro (List.map eHead a0.heads)])]) (fun bs => pin) fun bs t o => ?_
  show vwp _ ib_impl_RepoSweep _ _
  unfold ib_impl_RepoSweep
  refine w_ir ?_
  unfold gf_impl_RepoSweep at h
  obtain ⟨x3, h4, h⟩ := bnd h
  refine go ?_; intros
  refine c_call (c := c_impl_RepoOk) (a0) H_impl_RepoOk h4 fun ch => ?_
  refine go ?_; intros
  refine w_cond rfl (fun c => ?_) (fun c => ?_)
  · replace h := itt h c
    try rw [c]
    refine go ?_; intros
    cases h
    exact r_end
  replace h := itf h c
  try rw [c]
  obtain ⟨h7, h⟩ := gd h
  refine go ?_; intros
  refine r_mks (f := eBool) (x := false) rfl rfl (band1 h7) (band2 h7) rfl fun b5 => ?_
  obtain ⟨hf267, h⟩ := gd h
  obtain ⟨q248, h1005, h⟩ := bnd h
  refine go ?_; intros
  refine w_last (fun t o => ∃ b340 b341 c342 b343 c344 b345 b347 c348, Pin t (ovr [(1, .ptr 8 b340 210 0 0), (2, .ptr 16 b345 210 0 0), (3, .ref 184 b347 c348 0 q248.length 33)] t) ∧ PinH o (ovh [(8, ⟨b340, 1, 210, true, [[.sl false 3 (List.map (eCommit false) a0.commits), .sl false 2 (List.map eHead a0.heads)]]⟩), (1000256, ent b341 c342 115 (List.map (eCommit true) [])), (1000257, ent b343 c344 130 (List.map eHead [])), (16, ⟨b345, 1, 210, true, [[.al 1000256 b341 c342 0 ([] : List Commit).length 115, .al 1000257 b343 c344 0 ([] : List Head).length 130]]⟩), (184, ent b347 c348 33 (List.map eBool q248))] o)) ?_ ?_
  · refine w_loop2 (fun n t o => ∃ l261 k259 v256 b250 b251 c252 b253 c254 b255 b257 c258, gl_impl_RepoSweep_4 a0 l261 k259 v256 = some q248 ∧ n = l261.length ∧ (a0.heads).drop k259 = l261 ∧ Pin t (ovr [(1, .ptr 8 b250 210 0 0), (2, .ptr 16 b255 210 0 0), (3, .ref 184 b257 c258 0 v256.length 33), (25, .ro (List.map eHead a0.heads)), (26, .v (.int .i64 (a0.heads.length : Int))), (27, .v (.int .i64 (k259 : Int)))] t) ∧ PinH o (ovh [(8, ⟨b250, 1, 210, true, [[.sl false 3 (List.map (eCommit false) a0.commits), .sl false 2 (List.map eHead a0.heads)]]⟩), (1000256, ent b251 c252 115 (List.map (eCommit true) [])), (1000257, ent b253 c254 130 (List.map eHead [])), (16, ⟨b255, 1, 210, true, [[.al 1000256 b251 c252 0 ([] : List Commit).length 115, .al 1000257 b253 c254 0 ([] : List Head).length 130]]⟩), (184, ent b257 c258 33 (List.map eBool v256))] o)) _ ⟨_, _, _, _, _, _, _, _, _, _, _, h1005, rfl, rfl, pin, pinh⟩ ?_
    rintro n t o ⟨l261, k259, v256, b250, b251, c252, b253, c254, b255, b257, c258, h1005, rfl, hd262, pq1, pq2⟩
    refine pinned pq1 pq2 ?_
    cases l261 with
    | nil =>
      have hge264 := drop_ge hd262
      rw [gl_impl_RepoSweep_4] at h1005
      refine go ?_; intros
      rw [hge264]
      refine go ?_; intros
      cases h1005
      exact k_cn ⟨_, _, _, _, _, _, _, _, pin, pinh⟩
    | cons x260 l261 =>
      have hlt263 := drop_lt hd262
      have hx265 := drop_ix hd262
      have hw266 := drop_wr hd262 hf267
      rw [gl_impl_RepoSweep_4] at h1005
      refine go ?_; intros
      rw [hlt263]
      refine go ?_; intros
      refine r_iro rfl rfl hx265 rfl ?_
      obtain ⟨x269, h270, h1005⟩ := bnd h1005
      refine go ?_; intros
      refine c_call (c := c_impl_Repo_past) (a0, x260.at_) H_impl_Repo_past h270 fun ch => ?_
      obtain ⟨hf328, h1005⟩ := gd h1005
      obtain ⟨q307, h1006, h1005⟩ := bnd h1005
      refine go ?_; intros
      refine w_last (fun t o => ∃ b331 b332 c333 b334 c335 b336 b338 c339, Pin t (ovr [(1, .ptr 8 b331 210 0 0), (2, .ptr 16 b336 210 0 0), (3, .ref 184 b338 c339 0 q307.length 33), (25, .ro (List.map eHead a0.heads)), (26, .v (.int .i64 (a0.heads.length : Int))), (27, .v (.int .i64 (k259 : Int)))] t) ∧ PinH o (ovh [(8, ⟨b331, 1, 210, true, [[.sl false 3 (List.map (eCommit false) a0.commits), .sl false 2 (List.map eHead a0.heads)]]⟩), (1000256, ent b332 c333 115 (List.map (eCommit true) [])), (1000257, ent b334 c335 130 (List.map eHead [])), (16, ⟨b336, 1, 210, true, [[.al 1000256 b332 c333 0 ([] : List Commit).length 115, .al 1000257 b334 c335 0 ([] : List Head).length 130]]⟩), (184, ent b338 c339 33 (List.map eBool q307))] o)) ?_ ?_
      · refine w_loop2 (fun n t o => ∃ l322 k320 v315 b309 b310 c311 b312 c313 b314 b316 c317 b318 c319, gl_impl_RepoSweep_5 l322 k320 v315 = some q307 ∧ n = l322.length ∧ (x269).drop k320 = l322 ∧ Pin t (ovr [(1, .ptr 8 b309 210 0 0), (2, .ptr 16 b314 210 0 0), (3, .ref 184 b316 c317 0 v315.length 33), (25, .ro (List.map eHead a0.heads)), (26, .v (.int .i64 (a0.heads.length : Int))), (27, .v (.int .i64 (k259 : Int))), (34, .ref 272 b318 c319 0 x269.length 33), (35, .v (.int .i64 (x269.length : Int))), (36, .v (.int .i64 (k320 : Int)))] t) ∧ PinH o (ovh [(8, ⟨b309, 1, 210, true, [[.sl false 3 (List.map (eCommit false) a0.commits), .sl false 2 (List.map eHead a0.heads)]]⟩), (1000256, ent b310 c311 115 (List.map (eCommit true) [])), (1000257, ent b312 c313 130 (List.map eHead [])), (16, ⟨b314, 1, 210, true, [[.al 1000256 b310 c311 0 ([] : List Commit).length 115, .al 1000257 b312 c313 0 ([] : List Head).length 130]]⟩), (184, ent b316 c317 33 (List.map eBool v315)), (272, ent b318 c319 33 (List.map eBool x269))] o)) _ ⟨_, _, _, _, _, _, _, _, _, _, _, _, _, h1006, rfl, rfl, pin, pinh⟩ ?_
        rintro n t o ⟨l322, k320, v315, b309, b310, c311, b312, c313, b314, b316, c317, b318, c319, h1006, rfl, hd323, pq1, pq2⟩
        refine pinned pq1 pq2 ?_
        cases l322 with
        | nil =>
          have hge325 := drop_ge hd323
          rw [gl_impl_RepoSweep_5] at h1006
          refine go ?_; intros
          rw [hge325]
          refine go ?_; intros
          cases h1006
          exact k_cn ⟨_, _, _, _, _, _, _, _, pin, pinh⟩
        | cons x321 l322 =>
          have hlt324 := drop_lt hd323
          have hx326 := drop_ix hd323
          have hw327 := drop_wr hd323 hf328
          rw [gl_impl_RepoSweep_5] at h1006
          refine go ?_; intros
          rw [hlt324]
          refine go ?_; intros
          refine r_ire (xs := x269) rfl rfl hx326 rfl ?_
          refine go ?_; intros
          refine r_lde (f := eBool) (xs := x269) (x := x321) rfl rfl (idx_get hx326).2 rfl rfl rfl ?_
          obtain ⟨x329, h330, h1006⟩ := bnd h1006
          refine go ?_; intros
          refine r_ire (xs := v315) rfl rfl h330 rfl ?_
          refine go ?_; intros
          refine r_lde (f := eBool) (xs := v315) (x := x329) rfl rfl (idx_get h330).2 rfl rfl rfl ?_
          refine go ?_; intros
          refine s_split rfl (fun c => ?_) (fun c => ?_)
          · replace h1006 := itt h1006 c
            rw [c]
            refine go ?_; intros
            refine r_ire (xs := v315) rfl rfl h330 rfl ?_
            refine go ?_; intros
            refine c_ste (f := eBool) v315 true (idx_get h330).2 ?_
            refine go ?_; intros
            rw [hw327]
            exact k_ln2 _ (Nat.lt_succ_self _) ⟨_, _, _, _, _, _, _, _, _, _, _, _, _, h1006, rfl, drop_next hd323, pin, pinh⟩
          replace h1006 := itf h1006 c
          rw [c]
          refine go ?_; intros
          refine r_ire (xs := v315) rfl rfl h330 rfl ?_
          refine go ?_; intros
          refine c_ste (f := eBool) v315 x321 (idx_get h330).2 ?_
          refine go ?_; intros
          rw [hw327]
          exact k_ln2 _ (Nat.lt_succ_self _) ⟨_, _, _, _, _, _, _, _, _, _, _, _, _, h1006, rfl, drop_next hd323, pin, pinh⟩
      rintro t o ⟨b331, b332, c333, b334, c335, b336, b338, c339, pq1, pq2⟩
      refine pinnedQ pq1 pq2 ?_
      refine go ?_; intros
      rw [hw266]
      exact k_ln2 _ (Nat.lt_succ_self _) ⟨_, _, _, _, _, _, _, _, _, _, _, h1005, rfl, drop_next hd262, pin, pinh⟩
  rintro t o ⟨b340, b341, c342, b343, c344, b345, b347, c348, pq1, pq2⟩
  refine pinnedQ pq1 pq2 ?_
  obtain ⟨h351, h⟩ := gd h
  refine go ?_; intros
  refine r_mks (f := eInt) (x := 0) rfl rfl (band1 h351) (band2 h351) rfl fun b349 => ?_
  obtain ⟨h356, h⟩ := gd h
  refine go ?_; intros
  refine r_app (f := eHead) (xs := ([] : (List Head))) (ys := a0.heads) rfl (src_ro (fun _ => rfl) (fun _ => rfl)) rfl rfl (by first | rfl | simp) h356 fun b354 c355 => ?_
  obtain ⟨hf787, h⟩ := gd h
  obtain ⟨q761, h1007, h⟩ := bnd h
  refine go ?_; intros
  refine w_last (fun t o => ∃ b910 c911 b912 c913 b914 b916 c917 b919 c920 b921 c922 b923, Pin t (ovr [(2, .ptr 16 b914 210 0 0), (8, .ref 448 b916 c917 0 q761.1.length 17), (9, .ptr 72 b923 210 0 0)] t) ∧ PinH o (ovh [(1000256, ent b910 c911 115 (List.map (eCommit true) [])), (1000257, ent b912 c913 130 (List.map eHead [])), (16, ⟨b914, 1, 210, true, [[.al 1000256 b910 c911 0 ([] : List Commit).length 115, .al 1000257 b912 c913 0 ([] : List Head).length 130]]⟩), (448, ent b916 c917 17 (List.map eInt q761.1)), (1001152, ent b919 c920 115 (List.map (eCommit true) q761.2)), (1001153, ent b921 c922 130 (List.map eHead ([] ++ a0.heads))), (72, ⟨b923, 1, 210, true, [[.al 1001152 b919 c920 0 q761.2.length 115, .al 1001153 b921 c922 0 ([] ++ a0.heads).length 130]]⟩)] o)) ?_ ?_
  · refine w_loop2 (fun n t o => ∃ l781 k779 v770 v773 b763 c764 b765 c766 b767 b768 c769 b771 c772 b774 c775 b776 c777 b778, gl_impl_RepoSweep_9 q248 l781 k779 v770 v773 = some q761 ∧ n = l781.length ∧ (a0.commits).drop k779 = l781 ∧ Pin t (ovr [(2, .ptr 16 b767 210 0 0), (3, .ref 184 b768 c769 0 q248.length 33), (8, .ref 448 b771 c772 0 v770.length 17), (9, .ptr 72 b778 210 0 0), (64, .ro (List.map (eCommit false) a0.commits)), (65, .v (.int .i64 (a0.commits.length : Int))), (66, .v (.int .i64 (k779 : Int)))] t) ∧ PinH o (ovh [(1000256, ent b763 c764 115 (List.map (eCommit true) [])), (1000257, ent b765 c766 130 (List.map eHead [])), (16, ⟨b767, 1, 210, true, [[.al 1000256 b763 c764 0 ([] : List Commit).length 115, .al 1000257 b765 c766 0 ([] : List Head).length 130]]⟩), (184, ent b768 c769 33 (List.map eBool q248)), (448, ent b771 c772 17 (List.map eInt v770)), (1001152, ent b774 c775 115 (List.map (eCommit true) v773)), (1001153, ent b776 c777 130 (List.map eHead ([] ++ a0.heads))), (72, ⟨b778, 1, 210, true, [[.al 1001152 b774 c775 0 v773.length 115, .al 1001153 b776 c777 0 ([] ++ a0.heads).length 130]]⟩)] o)) _ ⟨_, _, _, _, _, _, _, _, _, _, _, _, _, _, _, _, _, _, h1007, rfl, rfl, pin, pinh⟩ ?_
    rintro n t o ⟨l781, k779, v770, v773, b763, c764, b765, c766, b767, b768, c769, b771, c772, b774, c775, b776, c777, b778, h1007, rfl, hd782, pq1, pq2⟩
    refine pinned pq1 pq2 ?_
    cases l781 with
    | nil =>
      have hge784 := drop_ge hd782
      rw [gl_impl_RepoSweep_9] at h1007
      refine go ?_; intros
      rw [hge784]
      refine go ?_; intros
      cases h1007
      exact k_cn ⟨_, _, _, _, _, _, _, _, _, _, _, _, pin, pinh⟩
    | cons x780 l781 =>
      have hlt783 := drop_lt hd782
      have hx785 := drop_ix hd782
      have hw786 := drop_wr hd782 hf787
      rw [gl_impl_RepoSweep_9] at h1007
      refine go ?_; intros
      rw [hlt783]
      refine go ?_; intros
      refine r_iro rfl rfl hx785 rfl ?_
      obtain ⟨x789, h790, h1007⟩ := bnd h1007
      refine go ?_; intros
      refine r_ire (xs := v770) rfl rfl h790 rfl ?_
      refine go ?_; intros
      refine c_ste (f := eInt) v770 (v773.length : Int) (idx_get h790).2 ?_
      obtain ⟨x791, h792, h1007⟩ := bnd h1007
      refine go ?_; intros
      refine r_ire (xs := q248) rfl rfl h792 rfl ?_
      refine go ?_; intros
      refine r_lde (f := eBool) (xs := q248) (x := x791) rfl rfl (idx_get h792).2 rfl rfl rfl ?_
      refine go ?_; intros
      refine w_cond rfl (fun c => ?_) (fun c => ?_)
      · replace h1007 := itt h1007 c
        try rw [c]
        refine go ?_; intros
        rw [hw786]
        exact k_ln2 _ (Nat.lt_succ_self _) ⟨_, _, _, _, _, _, _, _, _, _, _, _, _, _, _, _, _, _, h1007, rfl, drop_next hd782, pin, pinh⟩
      replace h1007 := itf h1007 c
      try rw [c]
      obtain ⟨x793, h794, h1007⟩ := bnd h1007
      refine go ?_; intros
      refine c_call (c := c_impl_cloneCommit) (x780) H_impl_cloneCommit h794 fun ch => ?_
      obtain ⟨hf881, h1007⟩ := gd h1007
      obtain ⟨q851, h1008, h1007⟩ := bnd h1007
      refine go ?_; intros
      refine w_last (fun t o => ∃ b886 c887 b888 c889 b890 b891 c892 b893 c894 b895 c896 b897 c898 b899 b901 c902 b903 c904 b905, Pin t (ovr [(2, .ptr 16 b890 210 0 0), (3, .ref 184 b891 c892 0 q248.length 33), (8, .ref 448 b893 c894 0 (List.set v770 (k779 : Int).toNat (v773.length : Int)).length 17), (9, .ptr 72 b899 210 0 0), (11, .ptr 88 b905 115 0 0), (64, .ro (List.map (eCommit false) a0.commits)), (65, .v (.int .i64 (a0.commits.length : Int))), (66, .v (.int .i64 (k779 : Int)))] t) ∧ PinH o (ovh [(1000256, ent b886 c887 115 (List.map (eCommit true) [])), (1000257, ent b888 c889 130 (List.map eHead [])), (16, ⟨b890, 1, 210, true, [[.al 1000256 b886 c887 0 ([] : List Commit).length 115, .al 1000257 b888 c889 0 ([] : List Head).length 130]]⟩), (184, ent b891 c892 33 (List.map eBool q248)), (448, ent b893 c894 17 (List.map eInt (List.set v770 (k779 : Int).toNat (v773.length : Int)))), (1001152, ent b895 c896 115 (List.map (eCommit true) v773)), (1001153, ent b897 c898 130 (List.map eHead ([] ++ a0.heads))), (72, ⟨b899, 1, 210, true, [[.al 1001152 b895 c896 0 v773.length 115, .al 1001153 b897 c898 0 ([] ++ a0.heads).length 130]]⟩), (1001408, ent b901 c902 17 (List.map eInt q851)), (1001409, ent b903 c904 100 (List.map (eFeat true) x793.sheet)), (88, ⟨b905, 1, 115, true, [[.al 1001408 b901 c902 0 q851.length 17, .al 1001409 b903 c904 0 x793.sheet.length 100, .v (.string x793.note)]]⟩)] o)) ?_ ?_
      · refine w_loop2 (fun n t o => ∃ l875 k873 v867 b853 c854 b855 c856 b857 b858 c859 b860 c861 b862 c863 b864 c865 b866 b868 c869 b870 c871 b872, gl_impl_RepoSweep_10 v770 k779 v773 l875 k873 v867 = some q851 ∧ n = l875.length ∧ (x793.up).drop k873 = l875 ∧ Pin t (ovr [(2, .ptr 16 b857 210 0 0), (3, .ref 184 b858 c859 0 q248.length 33), (8, .ref 448 b860 c861 0 (List.set v770 (k779 : Int).toNat (v773.length : Int)).length 17), (9, .ptr 72 b866 210 0 0), (11, .ptr 88 b872 115 0 0), (64, .ro (List.map (eCommit false) a0.commits)), (65, .v (.int .i64 (a0.commits.length : Int))), (66, .v (.int .i64 (k779 : Int))), (85, .ref 1001408 b868 c869 0 v867.length 17), (86, .v (.int .i64 (x793.up.length : Int))), (87, .v (.int .i64 (k873 : Int)))] t) ∧ PinH o (ovh [(1000256, ent b853 c854 115 (List.map (eCommit true) [])), (1000257, ent b855 c856 130 (List.map eHead [])), (16, ⟨b857, 1, 210, true, [[.al 1000256 b853 c854 0 ([] : List Commit).length 115, .al 1000257 b855 c856 0 ([] : List Head).length 130]]⟩), (184, ent b858 c859 33 (List.map eBool q248)), (448, ent b860 c861 17 (List.map eInt (List.set v770 (k779 : Int).toNat (v773.length : Int)))), (1001152, ent b862 c863 115 (List.map (eCommit true) v773)), (1001153, ent b864 c865 130 (List.map eHead ([] ++ a0.heads))), (72, ⟨b866, 1, 210, true, [[.al 1001152 b862 c863 0 v773.length 115, .al 1001153 b864 c865 0 ([] ++ a0.heads).length 130]]⟩), (1001408, ent b868 c869 17 (List.map eInt v867)), (1001409, ent b870 c871 100 (List.map (eFeat true) x793.sheet)), (88, ⟨b872, 1, 115, true, [[.al 1001408 b868 c869 0 v867.length 17, .al 1001409 b870 c871 0 x793.sheet.length 100, .v (.string x793.note)]]⟩)] o)) _ ⟨_, _, _, _, _, _, _, _, _, _, _, _, _, _, _, _, _, _, _, _, _, _, h1008, rfl, rfl, pin, pinh⟩ ?_
        rintro n t o ⟨l875, k873, v867, b853, c854, b855, c856, b857, b858, c859, b860, c861, b862, c863, b864, c865, b866, b868, c869, b870, c871, b872, h1008, rfl, hd876, pq1, pq2⟩
        refine pinned pq1 pq2 ?_
        cases l875 with
        | nil =>
          have hge878 := drop_ge hd876
          rw [gl_impl_RepoSweep_10] at h1008
          refine go ?_; intros
          rw [hge878]
          refine go ?_; intros
          cases h1008
          exact k_cn ⟨_, _, _, _, _, _, _, _, _, _, _, _, _, _, _, _, _, _, _, pin, pinh⟩
        | cons x874 l875 =>
          have hlt877 := drop_lt hd876
          have hx879 := drop_ix hd876
          have hw880 := drop_wr hd876 hf881
          rw [gl_impl_RepoSweep_10] at h1008
          refine go ?_; intros
          rw [hlt877]
          obtain ⟨x882, h883, h1008⟩ := bnd h1008
          refine go ?_; intros
          refine r_ire (xs := v867) rfl rfl h883 rfl ?_
          refine go ?_; intros
          refine r_lde (f := eInt) (xs := v867) (x := x882) rfl rfl (idx_get h883).2 rfl rfl rfl ?_
          obtain ⟨x884, h885, h1008⟩ := bnd h1008
          refine go ?_; intros
          refine r_ire (xs := (List.set v770 (k779 : Int).toNat (v773.length : Int))) rfl rfl h885 rfl ?_
          refine go ?_; intros
          refine r_lde (f := eInt) (xs := (List.set v770 (k779 : Int).toNat (v773.length : Int))) (x := x884) rfl rfl (idx_get h885).2 rfl rfl rfl ?_
          refine go ?_; intros
          refine r_ire (xs := v867) rfl rfl h883 rfl ?_
          refine go ?_; intros
          refine c_ste (f := eInt) v867 x884 (idx_get h883).2 ?_
          refine go ?_; intros
          rw [hw880]
          exact k_ln2 _ (Nat.lt_succ_self _) ⟨_, _, _, _, _, _, _, _, _, _, _, _, _, _, _, _, _, _, _, _, _, _, h1008, rfl, drop_next hd876, pin, pinh⟩
      rintro t o ⟨b886, c887, b888, c889, b890, b891, c892, b893, c894, b895, c896, b897, c898, b899, b901, c902, b903, c904, b905, pq1, pq2⟩
      refine pinnedQ pq1 pq2 ?_
      refine go ?_; intros
      simp only [take_map_len, take_ent]
      obtain ⟨h909, h1007⟩ := gd h1007
      refine go ?_; intros
      refine r_app (f := (eCommit true)) (xs := v773) (ys := ([(⟨q851, x793.sheet, x793.note⟩ : Commit)] : (List Commit))) rfl (src_mv rfl rfl (by first | rfl | simp)) rfl rfl (by first | rfl | simp) h909 fun b907 c908 => ?_
      refine go ?_; intros
      rw [hw786]
      exact k_ln2 _ (Nat.lt_succ_self _) ⟨_, _, _, _, _, _, _, _, _, _, _, _, _, _, _, _, _, _, h1007, rfl, drop_next hd782, pin, pinh⟩
  rintro t o ⟨b910, c911, b912, c913, b914, b916, c917, b919, c920, b921, c922, b923, pq1, pq2⟩
  refine pinnedQ pq1 pq2 ?_
  obtain ⟨hf988, h⟩ := gd h
  obtain ⟨q965, h1009, h⟩ := bnd h
  refine go ?_; intros
  refine w_last (fun t o => ∃ b994 c995 b996 c997 b998 b999 c1000 b1002 c1003 b1004, Pin t (ovr [(2, .ptr 16 b998 210 0 0), (9, .ptr 72 b1004 210 0 0)] t) ∧ PinH o (ovh [(1000256, ent b994 c995 115 (List.map (eCommit true) [])), (1000257, ent b996 c997 130 (List.map eHead [])), (16, ⟨b998, 1, 210, true, [[.al 1000256 b994 c995 0 ([] : List Commit).length 115, .al 1000257 b996 c997 0 ([] : List Head).length 130]]⟩), (1001152, ent b999 c1000 115 (List.map (eCommit true) q761.2)), (1001153, ent b1002 c1003 130 (List.map eHead q965)), (72, ⟨b1004, 1, 210, true, [[.al 1001152 b999 c1000 0 q761.2.length 115, .al 1001153 b1002 c1003 0 q965.length 130]]⟩)] o)) ?_ ?_
  · refine w_loop2 (fun n t o => ∃ l982 k980 v976 b967 c968 b969 c970 b971 b972 c973 b974 c975 b977 c978 b979, gl_impl_RepoSweep_11 q761 l982 k980 v976 = some q965 ∧ n = l982.length ∧ (([] ++ a0.heads)).drop k980 = l982 ∧ Pin t (ovr [(2, .ptr 16 b971 210 0 0), (8, .ref 448 b972 c973 0 q761.1.length 17), (9, .ptr 72 b979 210 0 0), (109, .ref 1001153 b977 c978 0 v976.length 130), (110, .v (.int .i64 (([] ++ a0.heads).length : Int))), (111, .v (.int .i64 (k980 : Int)))] t) ∧ PinH o (ovh [(1000256, ent b967 c968 115 (List.map (eCommit true) [])), (1000257, ent b969 c970 130 (List.map eHead [])), (16, ⟨b971, 1, 210, true, [[.al 1000256 b967 c968 0 ([] : List Commit).length 115, .al 1000257 b969 c970 0 ([] : List Head).length 130]]⟩), (448, ent b972 c973 17 (List.map eInt q761.1)), (1001152, ent b974 c975 115 (List.map (eCommit true) q761.2)), (1001153, ent b977 c978 130 (List.map eHead v976)), (72, ⟨b979, 1, 210, true, [[.al 1001152 b974 c975 0 q761.2.length 115, .al 1001153 b977 c978 0 v976.length 130]]⟩)] o)) _ ⟨_, _, _, _, _, _, _, _, _, _, _, _, _, _, _, h1009, rfl, rfl, pin, pinh⟩ ?_
    rintro n t o ⟨l982, k980, v976, b967, c968, b969, c970, b971, b972, c973, b974, c975, b977, c978, b979, h1009, rfl, hd983, pq1, pq2⟩
    refine pinned pq1 pq2 ?_
    cases l982 with
    | nil =>
      have hge985 := drop_ge hd983
      rw [gl_impl_RepoSweep_11] at h1009
      refine go ?_; intros
      rw [hge985]
      refine go ?_; intros
      cases h1009
      exact k_cn ⟨_, _, _, _, _, _, _, _, _, _, pin, pinh⟩
    | cons x981 l982 =>
      have hlt984 := drop_lt hd983
      have hx986 := drop_ix hd983
      have hw987 := drop_wr hd983 hf988
      rw [gl_impl_RepoSweep_11] at h1009
      refine go ?_; intros
      rw [hlt984]
      obtain ⟨x989, h990, h1009⟩ := bnd h1009
      refine go ?_; intros
      refine r_ire (xs := v976) rfl rfl h990 rfl ?_
      refine go ?_; intros
      refine r_lde (f := eHead) (xs := v976) (x := x989) rfl rfl (idx_get h990).2 rfl rfl rfl ?_
      obtain ⟨x992, h993, h1009⟩ := bnd h1009
      refine go ?_; intros
      refine r_ire (xs := q761.1) rfl rfl h993 rfl ?_
      refine go ?_; intros
      refine r_lde (f := eInt) (xs := q761.1) (x := x992) rfl rfl (idx_get h993).2 rfl rfl rfl ?_
      refine go ?_; intros
      refine r_ire (xs := v976) rfl rfl h990 rfl ?_
      refine go ?_; intros
      refine c_ste (f := eHead) v976 (⟨x989.name, x992⟩ : Head) (idx_get h990).2 ?_
      refine go ?_; intros
      rw [hw987]
      exact k_ln2 _ (Nat.lt_succ_self _) ⟨_, _, _, _, _, _, _, _, _, _, _, _, _, _, _, h1009, rfl, drop_next hd983, pin, pinh⟩
  rintro t o ⟨b994, c995, b996, c997, b998, b999, c1000, b1002, c1003, b1004, pq1, pq2⟩
  refine pinnedQ pq1 pq2 ?_
  refine go ?_; intros
  cases h
  exact r_end
theorem d_spec_RepoSweep {G : Gam} (H_spec_RepoOk : Has G c_spec_RepoOk) (H_spec_l7Marks : Has G c_spec_l7Marks) (H_spec_l7One : Has G c_spec_l7One) (a0 : Repo) (r : Repo) (h : gf_spec_RepoSweep a0 = some r) : Does G if_spec_RepoSweep ks_spec_RepoSweep (c_spec_RepoSweep.args (a0)) [] (c_spec_RepoSweep.ans (a0) r) := by
  refine does_pn (L := [(0, .agg [.ro (List.map (eCommit false) a0.commits), .ro (List.map eHead a0.heads)])]) (fun bs => pin) fun bs t o => ?_
  show vwp _ ib_spec_RepoSweep _ _
  unfold ib_spec_RepoSweep
  refine w_ir ?_
  unfold gf_spec_RepoSweep at h
  obtain ⟨x3, h4, h⟩ := bnd h
  refine go ?_; intros
  refine c_call (c := c_spec_RepoOk) (a0) H_spec_RepoOk h4 fun ch => ?_
  refine go ?_; intros
  refine w_cond rfl (fun c => ?_) (fun c => ?_)
  · replace h := itt h c
    try rw [c]
    refine go ?_; intros
    cases h
    exact r_end
  replace h := itf h c
  try rw [c]
  obtain ⟨hf61, h⟩ := gd h
  obtain ⟨q42, h709, h⟩ := bnd h
  refine go ?_; intros
  refine w_last (fun t o => ∃ b66 b67 c68 b69 c70 b71 b73 c74, Pin t (ovr [(1, .ptr 8 b66 210 0 0), (2, .ptr 16 b71 210 0 0), (3, .ref 128 b73 c74 0 q42.length 17)] t) ∧ PinH o (ovh [(8, ⟨b66, 1, 210, true, [[.sl false 3 (List.map (eCommit false) a0.commits), .sl false 2 (List.map eHead a0.heads)]]⟩), (1000256, ent b67 c68 115 (List.map (eCommit true) [])), (1000257, ent b69 c70 130 (List.map eHead [])), (16, ⟨b71, 1, 210, true, [[.al 1000256 b67 c68 0 ([] : List Commit).length 115, .al 1000257 b69 c70 0 ([] : List Head).length 130]]⟩), (128, ent b73 c74 17 (List.map eInt q42))] o)) ?_ ?_
  · refine w_loop2 (fun n t o => ∃ l55 k53 v50 b44 b45 c46 b47 c48 b49 b51 c52, gl_spec_RepoSweep_1 l55 k53 v50 = some q42 ∧ n = l55.length ∧ (a0.heads).drop k53 = l55 ∧ Pin t (ovr [(1, .ptr 8 b44 210 0 0), (2, .ptr 16 b49 210 0 0), (3, .ref 128 b51 c52 0 v50.length 17), (4, .v (.int .i64 (k53 : Int)))] t) ∧ PinH o (ovh [(8, ⟨b44, 1, 210, true, [[.sl false 3 (List.map (eCommit false) a0.commits), .sl false 2 (List.map eHead a0.heads)]]⟩), (1000256, ent b45 c46 115 (List.map (eCommit true) [])), (1000257, ent b47 c48 130 (List.map eHead [])), (16, ⟨b49, 1, 210, true, [[.al 1000256 b45 c46 0 ([] : List Commit).length 115, .al 1000257 b47 c48 0 ([] : List Head).length 130]]⟩), (128, ent b51 c52 17 (List.map eInt v50))] o)) _ ⟨_, _, _, _, _, _, _, _, _, _, _, h709, rfl, rfl, pin, pinh⟩ ?_
    rintro n t o ⟨l55, k53, v50, b44, b45, c46, b47, c48, b49, b51, c52, h709, rfl, hd56, pq1, pq2⟩
    refine pinned pq1 pq2 ?_
    cases l55 with
    | nil =>
      have hge58 := drop_ge hd56
      rw [gl_spec_RepoSweep_1] at h709
      refine go ?_; intros
      rw [hge58]
      refine go ?_; intros
      cases h709
      exact k_cn ⟨_, _, _, _, _, _, _, _, pin, pinh⟩
    | cons x54 l55 =>
      have hlt57 := drop_lt hd56
      have hx59 := drop_ix hd56
      have hw60 := drop_wr hd56 hf61
      rw [gl_spec_RepoSweep_1] at h709
      refine go ?_; intros
      rw [hlt57]
      refine go ?_; intros
      refine r_iro rfl rfl hx59 rfl ?_
      obtain ⟨h65, h709⟩ := gd h709
      refine go ?_; intros
      refine r_app (f := eInt) (xs := v50) (ys := ([x54.at_] : (List Int))) rfl (src_mv rfl rfl (by first | rfl | simp)) rfl rfl (by first | rfl | simp) h65 fun b63 c64 => ?_
      refine go ?_; intros
      rw [hw60]
      exact k_ln2 _ (Nat.lt_succ_self _) ⟨_, _, _, _, _, _, _, _, _, _, _, h709, rfl, drop_next hd56, pin, pinh⟩
  rintro t o ⟨b66, b67, c68, b69, c70, b71, b73, c74, pq1, pq2⟩
  refine pinnedQ pq1 pq2 ?_
  obtain ⟨x75, h76, h⟩ := bnd h
  refine go ?_; intros
  refine c_call (c := c_spec_l7Marks) (a0, q42) H_spec_l7Marks h76 fun ch => ?_
  obtain ⟨h81, h⟩ := gd h
  refine go ?_; intros
  refine r_mks (f := eInt) (x := 0) rfl rfl (band1 h81) (band2 h81) rfl fun b79 => ?_
  obtain ⟨h85, h⟩ := gd h
  refine go ?_; intros
  refine r_app (f := eHead) (xs := ([] : (List Head))) (ys := a0.heads) rfl (src_ro (fun _ => rfl) (fun _ => rfl)) rfl rfl (by first | rfl | simp) h85 fun b83 c84 => ?_
  obtain ⟨hf507, h⟩ := gd h
  obtain ⟨q480, h710, h⟩ := bnd h
  refine go ?_; intros
  refine w_last (fun t o => ∃ b626 c627 b628 c629 b630 b632 c633 b635 c636 b637 c638 b639, Pin t (ovr [(2, .ptr 16 b630 210 0 0), (6, .ref 312 b632 c633 0 q480.1.length 17), (7, .ptr 56 b639 210 0 0)] t) ∧ PinH o (ovh [(1000256, ent b626 c627 115 (List.map (eCommit true) [])), (1000257, ent b628 c629 130 (List.map eHead [])), (16, ⟨b630, 1, 210, true, [[.al 1000256 b626 c627 0 ([] : List Commit).length 115, .al 1000257 b628 c629 0 ([] : List Head).length 130]]⟩), (312, ent b632 c633 17 (List.map eInt q480.1)), (1000896, ent b635 c636 115 (List.map (eCommit true) q480.2)), (1000897, ent b637 c638 130 (List.map eHead ([] ++ a0.heads))), (56, ⟨b639, 1, 210, true, [[.al 1000896 b635 c636 0 q480.2.length 115, .al 1000897 b637 c638 0 ([] ++ a0.heads).length 130]]⟩)] o)) ?_ ?_
  · refine w_loop2 (fun n t o => ∃ l501 k499 v490 v493 b482 b483 c484 b485 c486 b487 b488 c489 b491 c492 b494 c495 b496 c497 b498, gl_spec_RepoSweep_5 x75 l501 k499 v490 v493 = some q480 ∧ n = l501.length ∧ (a0.commits).drop k499 = l501 ∧ Pin t (ovr [(1, .ptr 8 b482 210 0 0), (2, .ptr 16 b487 210 0 0), (5, .ref 280 b488 c489 0 x75.length 33), (6, .ref 312 b491 c492 0 v490.length 17), (7, .ptr 56 b498 210 0 0), (8, .v (.int .i64 (k499 : Int)))] t) ∧ PinH o (ovh [(8, ⟨b482, 1, 210, true, [[.sl false 3 (List.map (eCommit false) a0.commits), .sl false 2 (List.map eHead a0.heads)]]⟩), (1000256, ent b483 c484 115 (List.map (eCommit true) [])), (1000257, ent b485 c486 130 (List.map eHead [])), (16, ⟨b487, 1, 210, true, [[.al 1000256 b483 c484 0 ([] : List Commit).length 115, .al 1000257 b485 c486 0 ([] : List Head).length 130]]⟩), (280, ent b488 c489 33 (List.map eBool x75)), (312, ent b491 c492 17 (List.map eInt v490)), (1000896, ent b494 c495 115 (List.map (eCommit true) v493)), (1000897, ent b496 c497 130 (List.map eHead ([] ++ a0.heads))), (56, ⟨b498, 1, 210, true, [[.al 1000896 b494 c495 0 v493.length 115, .al 1000897 b496 c497 0 ([] ++ a0.heads).length 130]]⟩)] o)) _ ⟨_, _, _, _, _, _, _, _, _, _, _, _, _, _, _, _, _, _, _, h710, rfl, rfl, pin, pinh⟩ ?_
    rintro n t o ⟨l501, k499, v490, v493, b482, b483, c484, b485, c486, b487, b488, c489, b491, c492, b494, c495, b496, c497, b498, h710, rfl, hd502, pq1, pq2⟩
    refine pinned pq1 pq2 ?_
    cases l501 with
    | nil =>
      have hge504 := drop_ge hd502
      rw [gl_spec_RepoSweep_5] at h710
      refine go ?_; intros
      rw [hge504]
      refine go ?_; intros
      cases h710
      exact k_cn ⟨_, _, _, _, _, _, _, _, _, _, _, _, pin, pinh⟩
    | cons x500 l501 =>
      have hlt503 := drop_lt hd502
      have hx505 := drop_ix hd502
      have hw506 := drop_wr hd502 hf507
      rw [gl_spec_RepoSweep_5] at h710
      refine go ?_; intros
      rw [hlt503]
      obtain ⟨x508, h509, h710⟩ := bnd h710
      refine go ?_; intros
      refine r_ire (xs := x75) rfl rfl h509 rfl ?_
      refine go ?_; intros
      refine r_lde (f := eBool) (xs := x75) (x := x508) rfl rfl (idx_get h509).2 rfl rfl rfl ?_
      refine go ?_; intros
      refine w_cond rfl (fun c => ?_) (fun c => ?_)
      · replace h710 := itt h710 c
        try rw [c]
        refine go ?_; intros
        rw [hw506]
        exact k_ln2 _ (Nat.lt_succ_self _) ⟨_, _, _, _, _, _, _, _, _, _, _, _, _, _, _, _, _, _, _, h710, rfl, drop_next hd502, pin, pinh⟩
      replace h710 := itf h710 c
      try rw [c]
      refine go ?_; intros
      refine r_iro rfl rfl hx505 rfl ?_
      obtain ⟨x510, h511, h710⟩ := bnd h710
      refine go ?_; intros
      refine c_call (c := c_spec_l7One) (x500) H_spec_l7One h511 fun ch => ?_
      obtain ⟨q571, h711, h710⟩ := bnd h710
      refine go ?_; intros
      refine w_last (fun t o => ∃ b599 b600 c601 b602 c603 b604 b605 c606 b607 c608 b609 c610 b611 c612 b613 b615 c616 b617 c618 b619, Pin t (ovr [(1, .ptr 8 b599 210 0 0), (2, .ptr 16 b604 210 0 0), (5, .ref 280 b605 c606 0 x75.length 33), (6, .ref 312 b607 c608 0 v490.length 17), (7, .ptr 56 b613 210 0 0), (8, .v (.int .i64 (k499 : Int))), (9, .ptr 72 b619 115 0 0)] t) ∧ PinH o (ovh [(8, ⟨b599, 1, 210, true, [[.sl false 3 (List.map (eCommit false) a0.commits), .sl false 2 (List.map eHead a0.heads)]]⟩), (1000256, ent b600 c601 115 (List.map (eCommit true) [])), (1000257, ent b602 c603 130 (List.map eHead [])), (16, ⟨b604, 1, 210, true, [[.al 1000256 b600 c601 0 ([] : List Commit).length 115, .al 1000257 b602 c603 0 ([] : List Head).length 130]]⟩), (280, ent b605 c606 33 (List.map eBool x75)), (312, ent b607 c608 17 (List.map eInt v490)), (1000896, ent b609 c610 115 (List.map (eCommit true) v493)), (1000897, ent b611 c612 130 (List.map eHead ([] ++ a0.heads))), (56, ⟨b613, 1, 210, true, [[.al 1000896 b609 c610 0 v493.length 115, .al 1000897 b611 c612 0 ([] ++ a0.heads).length 130]]⟩), (1001152, ent b615 c616 17 (List.map eInt q571)), (1001153, ent b617 c618 100 (List.map (eFeat true) x510.sheet)), (72, ⟨b619, 1, 115, true, [[.al 1001152 b615 c616 0 q571.length 17, .al 1001153 b617 c618 0 x510.sheet.length 100, .v (.string x510.note)]]⟩)] o)) ?_ ?_
      · refine w_loop2 (fun n t o => ∃ n594 v572 v588 b573 b574 c575 b576 c577 b578 b579 c580 b581 c582 b583 c584 b585 c586 b587 b589 c590 b591 c592 b593, gl_spec_RepoSweep_6 v490 n594 v572 v588 = some q571 ∧ n594 = n ∧ Pin t (ovr [(1, .ptr 8 b573 210 0 0), (2, .ptr 16 b578 210 0 0), (5, .ref 280 b579 c580 0 x75.length 33), (6, .ref 312 b581 c582 0 v490.length 17), (7, .ptr 56 b587 210 0 0), (8, .v (.int .i64 (k499 : Int))), (9, .ptr 72 b593 115 0 0), (10, .v (.int .i64 v572))] t) ∧ PinH o (ovh [(8, ⟨b573, 1, 210, true, [[.sl false 3 (List.map (eCommit false) a0.commits), .sl false 2 (List.map eHead a0.heads)]]⟩), (1000256, ent b574 c575 115 (List.map (eCommit true) [])), (1000257, ent b576 c577 130 (List.map eHead [])), (16, ⟨b578, 1, 210, true, [[.al 1000256 b574 c575 0 ([] : List Commit).length 115, .al 1000257 b576 c577 0 ([] : List Head).length 130]]⟩), (280, ent b579 c580 33 (List.map eBool x75)), (312, ent b581 c582 17 (List.map eInt v490)), (1000896, ent b583 c584 115 (List.map (eCommit true) v493)), (1000897, ent b585 c586 130 (List.map eHead ([] ++ a0.heads))), (56, ⟨b587, 1, 210, true, [[.al 1000896 b583 c584 0 v493.length 115, .al 1000897 b585 c586 0 ([] ++ a0.heads).length 130]]⟩), (1001152, ent b589 c590 17 (List.map eInt v588)), (1001153, ent b591 c592 100 (List.map (eFeat true) x510.sheet)), (72, ⟨b593, 1, 115, true, [[.al 1001152 b589 c590 0 v588.length 17, .al 1001153 b591 c592 0 x510.sheet.length 100, .v (.string x510.note)]]⟩)] o)) _ ⟨_, _, _, _, _, _, _, _, _, _, _, _, _, _, _, _, _, _, _, _, _, _, _, h711, rfl, pin, pinh⟩ ?_
        rintro n t o ⟨n594, v572, v588, b573, b574, c575, b576, c577, b578, b579, c580, b581, c582, b583, c584, b585, c586, b587, b589, c590, b591, c592, b593, h711, rfl, pq1, pq2⟩
        refine pinned pq1 pq2 ?_
        cases n594 with
        | zero => rw [gl_spec_RepoSweep_6] at h711; cases h711
        | succ n594 =>
          rw [gl_spec_RepoSweep_6] at h711
          refine go ?_; intros
          refine w_cond rfl (fun c => ?_) (fun c => ?_)
          · replace h711 := itt h711 (by first | exact c | (have c2 := c; simp only [List.length_map] at c2; exact c2))
            try rw [c]
            obtain ⟨x595, h596, h711⟩ := bnd h711
            refine go ?_; intros
            refine r_ire (xs := v588) rfl rfl h596 rfl ?_
            refine go ?_; intros
            refine r_lde (f := eInt) (xs := v588) (x := x595) rfl rfl (idx_get h596).2 rfl rfl rfl ?_
            obtain ⟨x597, h598, h711⟩ := bnd h711
            refine go ?_; intros
            refine r_ire (xs := v490) rfl rfl h598 rfl ?_
            refine go ?_; intros
            refine r_lde (f := eInt) (xs := v490) (x := x597) rfl rfl (idx_get h598).2 rfl rfl rfl ?_
            refine go ?_; intros
            refine r_ire (xs := v588) rfl rfl h596 rfl ?_
            refine go ?_; intros
            refine c_ste (f := eInt) v588 x597 (idx_get h596).2 ?_
            refine go ?_; intros
            exact k_ln2 _ (Nat.lt_succ_self _) ⟨_, _, _, _, _, _, _, _, _, _, _, _, _, _, _, _, _, _, _, _, _, _, _, h711, rfl, pin, pinh⟩
          replace h711 := itf h711 (by first | exact c | (have c2 := c; simp only [List.length_map] at c2; exact c2))
          try rw [c]
          refine go ?_; intros
          cases h711
          exact k_cn ⟨_, _, _, _, _, _, _, _, _, _, _, _, _, _, _, _, _, _, _, _, pin, pinh⟩
      rintro t o ⟨b599, b600, c601, b602, c603, b604, b605, c606, b607, c608, b609, c610, b611, c612, b613, b615, c616, b617, c618, b619, pq1, pq2⟩
      refine pinnedQ pq1 pq2 ?_
      obtain ⟨x620, h621, h710⟩ := bnd h710
      refine go ?_; intros
      refine r_ire (xs := v490) rfl rfl h621 rfl ?_
      refine go ?_; intros
      refine c_ste (f := eInt) v490 (v493.length : Int) (idx_get h621).2 ?_
      refine go ?_; intros
      simp only [take_map_len, take_ent]
      obtain ⟨h625, h710⟩ := gd h710
      refine go ?_; intros
      refine r_app (f := (eCommit true)) (xs := v493) (ys := ([(⟨q571, x510.sheet, x510.note⟩ : Commit)] : (List Commit))) rfl (src_mv rfl rfl (by first | rfl | simp)) rfl rfl (by first | rfl | simp) h625 fun b623 c624 => ?_
      refine go ?_; intros
      rw [hw506]
      exact k_ln2 _ (Nat.lt_succ_self _) ⟨_, _, _, _, _, _, _, _, _, _, _, _, _, _, _, _, _, _, _, h710, rfl, drop_next hd502, pin, pinh⟩
  rintro t o ⟨b626, c627, b628, c629, b630, b632, c633, b635, c636, b637, c638, b639, pq1, pq2⟩
  refine pinnedQ pq1 pq2 ?_
  obtain ⟨q678, h712, h⟩ := bnd h
  refine go ?_; intros
  refine w_last (fun t o => ∃ b698 c699 b700 c701 b702 b703 c704 b706 c707 b708, Pin t (ovr [(2, .ptr 16 b702 210 0 0), (7, .ptr 56 b708 210 0 0)] t) ∧ PinH o (ovh [(1000256, ent b698 c699 115 (List.map (eCommit true) [])), (1000257, ent b700 c701 130 (List.map eHead [])), (16, ⟨b702, 1, 210, true, [[.al 1000256 b698 c699 0 ([] : List Commit).length 115, .al 1000257 b700 c701 0 ([] : List Head).length 130]]⟩), (1000896, ent b703 c704 115 (List.map (eCommit true) q480.2)), (1000897, ent b706 c707 130 (List.map eHead q678)), (56, ⟨b708, 1, 210, true, [[.al 1000896 b703 c704 0 q480.2.length 115, .al 1000897 b706 c707 0 q678.length 130]]⟩)] o)) ?_ ?_
  · refine w_loop2 (fun n t o => ∃ n693 v679 v689 b680 c681 b682 c683 b684 b685 c686 b687 c688 b690 c691 b692, gl_spec_RepoSweep_7 q480 n693 v679 v689 = some q678 ∧ n693 = n ∧ Pin t (ovr [(2, .ptr 16 b684 210 0 0), (6, .ref 312 b685 c686 0 q480.1.length 17), (7, .ptr 56 b692 210 0 0), (11, .v (.int .i64 v679))] t) ∧ PinH o (ovh [(1000256, ent b680 c681 115 (List.map (eCommit true) [])), (1000257, ent b682 c683 130 (List.map eHead [])), (16, ⟨b684, 1, 210, true, [[.al 1000256 b680 c681 0 ([] : List Commit).length 115, .al 1000257 b682 c683 0 ([] : List Head).length 130]]⟩), (312, ent b685 c686 17 (List.map eInt q480.1)), (1000896, ent b687 c688 115 (List.map (eCommit true) q480.2)), (1000897, ent b690 c691 130 (List.map eHead v689)), (56, ⟨b692, 1, 210, true, [[.al 1000896 b687 c688 0 q480.2.length 115, .al 1000897 b690 c691 0 v689.length 130]]⟩)] o)) _ ⟨_, _, _, _, _, _, _, _, _, _, _, _, _, _, _, h712, rfl, pin, pinh⟩ ?_
    rintro n t o ⟨n693, v679, v689, b680, c681, b682, c683, b684, b685, c686, b687, c688, b690, c691, b692, h712, rfl, pq1, pq2⟩
    refine pinned pq1 pq2 ?_
    cases n693 with
    | zero => rw [gl_spec_RepoSweep_7] at h712; cases h712
    | succ n693 =>
      rw [gl_spec_RepoSweep_7] at h712
      refine go ?_; intros
      refine w_cond rfl (fun c => ?_) (fun c => ?_)
      · replace h712 := itt h712 (by first | exact c | (have c2 := c; simp only [List.length_map] at c2; exact c2))
        try rw [c]
        obtain ⟨x694, h695, h712⟩ := bnd h712
        refine go ?_; intros
        refine r_ire (xs := v689) rfl rfl h695 rfl ?_
        refine go ?_; intros
        refine r_lde (f := eHead) (xs := v689) (x := x694) rfl rfl (idx_get h695).2 rfl rfl rfl ?_
        obtain ⟨x696, h697, h712⟩ := bnd h712
        refine go ?_; intros
        refine r_ire (xs := q480.1) rfl rfl h697 rfl ?_
        refine go ?_; intros
        refine r_lde (f := eInt) (xs := q480.1) (x := x696) rfl rfl (idx_get h697).2 rfl rfl rfl ?_
        refine go ?_; intros
        refine r_ire (xs := v689) rfl rfl h695 rfl ?_
        refine go ?_; intros
        refine c_ste (f := eHead) v689 (⟨x694.name, x696⟩ : Head) (idx_get h695).2 ?_
        refine go ?_; intros
        exact k_ln2 _ (Nat.lt_succ_self _) ⟨_, _, _, _, _, _, _, _, _, _, _, _, _, _, _, h712, rfl, pin, pinh⟩
      replace h712 := itf h712 (by first | exact c | (have c2 := c; simp only [List.length_map] at c2; exact c2))
      try rw [c]
      refine go ?_; intros
      cases h712
      exact k_cn ⟨_, _, _, _, _, _, _, _, _, _, pin, pinh⟩
  rintro t o ⟨b698, c699, b700, c701, b702, b703, c704, b706, c707, b708, pq1, pq2⟩
  refine pinnedQ pq1 pq2 ?_
  refine go ?_; intros
  cases h
  exact r_end
end Go.Proofs.AM
