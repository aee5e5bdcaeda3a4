/- A part of the proofs of this seat's statements (SBF16): lemmas on an abstract machine for the program's functions. Conditions: none. -/
import Derived.Test.YtcmfdcgopfbkjaaSBD
set_option linter.unusedVariables false
set_option maxRecDepth 100000
set_option maxHeartbeats 4000000
namespace Go.Proofs.AM
attribute [local irreducible] vwp vstps vstpLs vstp vdo vret kseq kblk kloop kend kcut kloop2 frzV renV shutK pfzV trnV unrV
theorem d_spec_DrawRepoPast {G : Gam} (H_spec_l7Places : Has G c_spec_l7Places) (a0 : (List UInt8)) (g0 : Option Addr) (g1 : Nat) (r : (Repo × Int)) (h : gf_spec_DrawRepoPast a0 = some r) : Does G if_spec_DrawRepoPast ks_spec_DrawRepoPast (c_spec_DrawRepoPast.args (a0, g0, g1)) [] (c_spec_DrawRepoPast.ans (a0, g0, g1) r) := by
  refine does_pn (L := [(0, .raw g0 g1 (List.map eU8 a0))]) (fun bs => pin) fun bs t o => ?_
  show vwp _ ib_spec_DrawRepoPast _ _
  unfold ib_spec_DrawRepoPast
  refine w_ir ?_
  unfold gf_spec_DrawRepoPast at h
  obtain ⟨x2, h3, h⟩ := bnd h
  refine go ?_; intros
  refine c_call (c := c_spec_l7Places) (a0, g0, g1) H_spec_l7Places h3 fun ch => ?_
  refine go ?_; intros
  cases h
  exact r_end
theorem d_spec_RepoPast {G : Gam} (H_spec_l7In : Has G c_spec_l7In) (H_spec_l7Marks : Has G c_spec_l7Marks) (a0 : Repo) (a1 : Int) (r : (List Int)) (h : gf_spec_RepoPast a0 a1 = some r) : Does G if_spec_RepoPast ks_spec_RepoPast (c_spec_RepoPast.args (a0, a1)) [] (c_spec_RepoPast.ans (a0, a1) r) := by
  refine does_pn (L := [(0, .agg [.ro (List.map (eCommit false) a0.commits), .ro (List.map eHead a0.heads)]), (1, .v (.int .i64 a1))]) (fun bs => pin) fun bs t o => ?_
  show vwp _ ib_spec_RepoPast _ _
  unfold ib_spec_RepoPast
  refine w_ir ?_
  unfold gf_spec_RepoPast at h
  obtain ⟨x3, h4, h⟩ := bnd h
  refine go ?_; intros
  refine c_call (c := c_spec_l7In) (a0, a1) H_spec_l7In h4 fun ch => ?_
  refine go ?_; intros
  refine w_cond rfl (fun c => ?_) (fun c => ?_)
  · replace h := itt h c
    try rw [c]
    refine go ?_; intros
    cases h
    exact r_end
  replace h := itf h c
  try rw [c]
  obtain ⟨x6, h7, h⟩ := bnd h
  refine go ?_; intros
  refine c_call (c := c_spec_l7Marks) (a0, ([a1] : (List Int))) H_spec_l7Marks h7 fun ch => ?_
  obtain ⟨q38, h55, h⟩ := bnd h
  refine go ?_; intros
  refine w_last (fun t o => ∃ b53 c54, Pin t (ovr [(5, .ref 64 b53 c54 0 q38.length 17)] t) ∧ PinH o (ovh [(64, ent b53 c54 17 (List.map eInt q38))] o)) ?_ ?_
  · refine w_loop2 (fun n t o => ∃ n45 v39 v40 b41 c42 b43 c44, gl_spec_RepoPast_1 x6 n45 v39 v40 = some q38 ∧ n45 = n ∧ Pin t (ovr [(5, .ref 64 b41 c42 0 v40.length 17), (6, .ref 136 b43 c44 0 x6.length 33), (7, .v (.int .i64 v39))] t) ∧ PinH o (ovh [(64, ent b41 c42 17 (List.map eInt v40)), (136, ent b43 c44 33 (List.map eBool x6))] o)) _ ⟨_, _, _, _, _, _, _, h55, rfl, pin, pinh⟩ ?_
    rintro n t o ⟨n45, v39, v40, b41, c42, b43, c44, h55, rfl, pq1, pq2⟩
    refine pinned pq1 pq2 ?_
    cases n45 with
    | zero => rw [gl_spec_RepoPast_1] at h55; cases h55
    | succ n45 =>
      rw [gl_spec_RepoPast_1] at h55
      refine go ?_; intros
      refine w_cond rfl (fun c => ?_) (fun c => ?_)
      · replace h55 := itt h55 c
        try rw [c]
        obtain ⟨x46, h47, h55⟩ := bnd h55
        refine go ?_; intros
        refine r_ire (xs := x6) rfl rfl h47 rfl ?_
        refine go ?_; intros
        refine r_lde (f := eBool) (xs := x6) (x := x46) rfl rfl (idx_get h47).2 rfl rfl rfl ?_
        refine go ?_; intros
        refine w_cond rfl (fun c => ?_) (fun c => ?_)
        · replace h55 := itt h55 c
          try rw [c]
          obtain ⟨h51, h55⟩ := gd h55
          refine go ?_; intros
          refine r_app (f := eInt) (xs := v40) (ys := ([v39] : (List Int))) rfl (src_mv rfl rfl (by first | rfl | simp)) rfl rfl (by first | rfl | simp) h51 fun b49 c50 => ?_
          refine go ?_; intros
          exact k_ln2 _ (Nat.lt_succ_self _) ⟨_, _, _, _, _, _, _, h55, rfl, pin, pinh⟩
        replace h55 := itf h55 c
        try rw [c]
        refine go ?_; intros
        exact k_ln2 _ (Nat.lt_succ_self _) ⟨_, _, _, _, _, _, _, h55, rfl, pin, pinh⟩
      replace h55 := itf h55 c
      try rw [c]
      refine go ?_; intros
      cases h55
      exact k_cn ⟨_, _, pin, pinh⟩
  rintro t o ⟨b53, c54, pq1, pq2⟩
  refine pinnedQ pq1 pq2 ?_
  refine go ?_; intros
  cases h
  exact r_end
theorem d_laws_FnRepoHeads {G : Gam} (H_spec_DrawRepoPast : Has G c_spec_DrawRepoPast) (H_impl_RepoPast : Has G c_impl_RepoPast) (H_spec_RepoPast : Has G c_spec_RepoPast) (H_impl_RepoSweep : Has G c_impl_RepoSweep) (H_impl_RepoAt : Has G c_impl_RepoAt) (H_impl_RepoOk : Has G c_impl_RepoOk) (H_impl_SheetSame : Has G c_impl_SheetSame) (a0 : (List UInt8)) (g0 : Option Addr) (g1 : Nat) (r : Bool) (h : gf_laws_FnRepoHeads a0 = some r) : Does G if_laws_FnRepoHeads ks_laws_FnRepoHeads (c_laws_FnRepoHeads.args (a0, g0, g1)) [] (c_laws_FnRepoHeads.ans (a0, g0, g1) r) := by
  refine does_pn (L := [(0, .raw g0 g1 (List.map eU8 a0))]) (fun bs => pin) fun bs t o => ?_
  show vwp _ ib_laws_FnRepoHeads _ _
  unfold ib_laws_FnRepoHeads
  refine w_ir ?_
  unfold gf_laws_FnRepoHeads at h
  refine go ?_; intros
  refine w_cond rfl (fun c => ?_) (fun c => ?_)
  · replace h := itt h (by first | exact c | (have c2 := c; simp only [List.length_map] at c2; exact c2))
    try rw [c]
    refine go ?_; intros
    cases h
    exact r_end
  replace h := itf h (by first | exact c | (have c2 := c; simp only [List.length_map] at c2; exact c2))
  try rw [c]
  refine go ?_; intros
  refine r_frz ?_
  obtain ⟨x1, h2, h⟩ := bnd h
  refine go ?_; intros
  refine c_call (c := c_spec_DrawRepoPast) (a0, g0, g1) H_spec_DrawRepoPast h2 fun ch => ?_
  refine go ?_; intros
  refine c_fz ?_
  obtain ⟨x8, h9, h⟩ := bnd h
  refine go ?_; intros
  refine c_call (c := c_impl_RepoPast) (x1.1, x1.2) H_impl_RepoPast h9 fun ch => ?_
  obtain ⟨x12, h13, h⟩ := bnd h
  refine go ?_; intros
  refine c_call (c := c_spec_RepoPast) (x1.1, x1.2) H_spec_RepoPast h13 fun ch => ?_
  refine go ?_; intros
  refine s_split rfl (fun c => ?_) (fun c => ?_)
  · replace h := itt h (by first | exact c | (have c2 := c; simp only [List.length_map] at c2; exact c2))
    rw [c]
    obtain ⟨x16, h17, h⟩ := bnd h
    refine go ?_; intros
    refine c_call (c := c_spec_RepoPast) (x1.1, x1.2) H_spec_RepoPast h17 fun ch => ?_
    refine go ?_; intros
    cases h
    exact r_end
  replace h := itf h (by first | exact c | (have c2 := c; simp only [List.length_map] at c2; exact c2))
  rw [c]
  refine go ?_; intros
  refine s_split rfl (fun c => ?_) (fun c => ?_)
  · replace h := itt h (by first | exact c | (have c2 := c; simp only [List.length_map] at c2; exact c2))
    rw [c]
    obtain ⟨x20, h21, h⟩ := bnd h
    refine go ?_; intros
    refine c_call (c := c_spec_RepoPast) (x1.1, x1.2) H_spec_RepoPast h21 fun ch => ?_
    refine go ?_; intros
    cases h
    exact r_end
  replace h := itf h (by first | exact c | (have c2 := c; simp only [List.length_map] at c2; exact c2))
  rw [c]
  refine go ?_; intros
  refine w_cond rfl (fun c => ?_) (fun c => ?_)
  · replace h := itt h (by first | exact c | (have c2 := c; simp only [List.length_map] at c2; exact c2))
    try rw [c]
    obtain ⟨x24, h25, h⟩ := bnd h
    refine go ?_; intros
    refine c_call (c := c_spec_RepoPast) (x1.1, x1.2) H_spec_RepoPast h25 fun ch => ?_
    refine go ?_; intros
    cases h
    exact r_end
  replace h := itf h (by first | exact c | (have c2 := c; simp only [List.length_map] at c2; exact c2))
  try rw [c]
  obtain ⟨q28, h73, h⟩ := bnd h
  refine go ?_; intros
  refine w_cut (fun t o => ∃ b30 b31 c32 b33, Pin t (ovr [(3, .ptr 24 b30 210 0 0), (4, .v (.int .i64 x1.2)), (5, .ref 152 b31 c32 0 x8.length 17), (6, .ptr 48 b33 210 0 0)] t) ∧ PinH o (ovh [(24, ⟨b30, 1, 210, true, [[.sl false 3 (List.map (eCommit false) x1.1.commits), .sl false 2 (List.map eHead x1.1.heads)]]⟩), (152, ent b31 c32 17 (List.map eInt x8)), (48, ⟨b33, 1, 210, true, [[.sl false 3 (List.map (eCommit false) x1.1.commits), .sl false 2 (List.map eHead x1.1.heads)]]⟩)] o)) ?_ ?_
  · refine go ?_; intros
    cases h73
    exact k_cn ⟨_, _, _, _, pin, pinh⟩
  rintro t o ⟨b30, b31, c32, b33, pq1, pq2⟩
  refine pinned pq1 pq2 ?_
  obtain ⟨h37, h⟩ := gd h
  refine go ?_; intros
  refine r_app (f := eHead) (xs := ([] : (List Head))) (ys := x1.1.heads) rfl (src_ro (fun _ => rfl) (fun _ => rfl)) rfl rfl (by first | rfl | simp) h37 fun b35 c36 => ?_
  obtain ⟨h41, h⟩ := gd h
  refine go ?_; intros
  refine r_app (f := eHead) (xs := ([] ++ x1.1.heads)) (ys := ([(⟨(⟨#[104, 101, 114, 101]⟩ : Str), x1.2⟩ : Head)] : (List Head))) rfl (src_mv rfl rfl (by first | rfl | simp)) rfl rfl (by first | rfl | simp) h41 fun b39 c40 => ?_
  obtain ⟨x42, h43, h⟩ := bnd h
  refine go ?_; intros
  refine c_call (c := c_impl_RepoSweep) ((⟨x1.1.commits, (([] ++ x1.1.heads) ++ ([(⟨(⟨#[104, 101, 114, 101]⟩ : Str), x1.2⟩ : Head)] : (List Head)))⟩ : Repo)) H_impl_RepoSweep h43 fun ch => ?_
  obtain ⟨x49, h50, h⟩ := bnd h
  refine go ?_; intros
  refine c_call (c := c_impl_RepoAt) (x42, (⟨#[104, 101, 114, 101]⟩ : Str)) H_impl_RepoAt h50 fun ch => ?_
  obtain ⟨x51, h52, h⟩ := bnd h
  refine go ?_; intros
  refine c_call (c := c_impl_RepoOk) ((⟨x1.1.commits, (([] ++ x1.1.heads) ++ ([(⟨(⟨#[104, 101, 114, 101]⟩ : Str), x1.2⟩ : Head)] : (List Head)))⟩ : Repo)) H_impl_RepoOk h52 fun ch => ?_
  refine go ?_; intros
  refine s_split rfl (fun c => ?_) (fun c => ?_)
  · replace h := itt h c
    rw [c]
    refine go ?_; intros
    cases h
    exact r_end
  replace h := itf h c
  rw [c]
  obtain ⟨x53, h54, h⟩ := bnd h
  refine go ?_; intros
  refine c_call (c := c_impl_RepoAt) ((⟨x1.1.commits, (([] ++ x1.1.heads) ++ ([(⟨(⟨#[104, 101, 114, 101]⟩ : Str), x1.2⟩ : Head)] : (List Head)))⟩ : Repo), (⟨#[104, 101, 114, 101]⟩ : Str)) H_impl_RepoAt h54 fun ch => ?_
  refine go ?_; intros
  refine s_split rfl (fun c => ?_) (fun c => ?_)
  · replace h := itt h c
    rw [c]
    refine go ?_; intros
    cases h
    exact r_end
  replace h := itf h c
  rw [c]
  refine go ?_; intros
  refine s_split rfl (fun c => ?_) (fun c => ?_)
  · replace h := itt h c
    rw [c]
    refine go ?_; intros
    cases h
    exact r_end
  replace h := itf h c
  rw [c]
  obtain ⟨x55, h56, h⟩ := bnd h
  refine go ?_; intros
  refine r_ire (xs := x42.commits) rfl rfl h56 rfl ?_
  refine go ?_; intros
  refine r_lopg (f := (eCommit true)) (g := (eFeat true)) (xs := x42.commits) (x := x55) (ys := x55.sheet) (idx_get h56).2 rfl rfl rfl fun b57 c58 => ?_
  obtain ⟨x59, h60, h⟩ := bnd h
  refine go ?_; intros
  refine r_iro rfl rfl h60 rfl ?_
  refine go ?_; intros
  refine r_shut ?_
  obtain ⟨x61, h62, h⟩ := bnd h
  refine go ?_; intros
  refine c_call (c := c_impl_SheetSame) (x55.sheet, x59.sheet) H_impl_SheetSame h62 fun ch => ?_
  refine go ?_; intros
  refine c_shg0 (f := (eCommit true)) (idx_get h56).2 ?_
  refine go ?_; intros
  refine w_cond rfl (fun c => ?_) (fun c => ?_)
  · replace h := itt h c
    try rw [c]
    refine go ?_; intros
    cases h
    exact r_end
  replace h := itf h c
  try rw [c]
  obtain ⟨x63, h64, h⟩ := bnd h
  refine go ?_; intros
  refine c_call (c := c_impl_RepoPast) (x42, x49) H_impl_RepoPast h64 fun ch => ?_
  refine go ?_; intros
  refine s_split rfl (fun c => ?_) (fun c => ?_)
  · replace h := itt h (by first | exact c | (have c2 := c; simp only [List.length_map] at c2; exact c2))
    rw [c]
    obtain ⟨x67, h68, h⟩ := bnd h
    refine go ?_; intros
    refine c_call (c := c_impl_RepoSweep) (x1.1) H_impl_RepoSweep h68 fun ch => ?_
    refine go ?_; intros
    cases h
    exact r_end
  replace h := itf h (by first | exact c | (have c2 := c; simp only [List.length_map] at c2; exact c2))
  rw [c]
  refine go ?_; intros
  cases h
  exact r_end
end Go.Proofs.AM
