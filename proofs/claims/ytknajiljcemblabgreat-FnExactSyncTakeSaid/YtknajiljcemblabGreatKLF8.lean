/- A part of the proofs of this seat's statements (KLF8): lemmas on an abstract machine for the program's functions. Conditions: none. -/
import Derived.Test.YtknajiljcemblabGreatKLD
set_option linter.unusedVariables false
set_option linter.unusedSimpArgs false
set_option maxRecDepth 100000
set_option maxHeartbeats 4000000
namespace Go.Proofs.AM
attribute [local irreducible] vwp vstps vstpLs vstp vdo vret kseq kblk kloop kend kcut kloop2 frzV renV shutK pfzV trnV unrV
theorem d_impl_SheetSame {G : Gam} (H_slices_EqualFunc_impl_Feat_impl_Feat_impl_Feat_impl_Feat__impl_FeatSame : Has G c_slices_EqualFunc_impl_Feat_impl_Feat_impl_Feat_impl_Feat__impl_FeatSame) (a0 : (List Feat)) (a1 : (List Feat)) (r : Bool) (h : gf_impl_SheetSame a0 a1 = some r) : Does G if_impl_SheetSame ks_impl_SheetSame (c_impl_SheetSame.args (a0, a1)) [] (c_impl_SheetSame.ans (a0, a1) r) := by
  refine does_pn (L := [(0, .ro (List.map (eFeat false) a0)), (1, .ro (List.map (eFeat false) a1))]) (fun bs => pin) fun bs t o => ?_
  show vwp _ ib_impl_SheetSame _ _
  unfold ib_impl_SheetSame
  refine w_ir ?_
  unfold gf_impl_SheetSame at h
  obtain ⟨x1, h2, h⟩ := bnd h
  refine go ?_; intros
  refine c_call (c := c_slices_EqualFunc_impl_Feat_impl_Feat_impl_Feat_impl_Feat__impl_FeatSame) (a0, a1) H_slices_EqualFunc_impl_Feat_impl_Feat_impl_Feat_impl_Feat__impl_FeatSame h2 fun ch => ?_
  refine go ?_; intros
  cases h
  exact r_end
theorem d_slices_Equal_int_int {G : Gam}  (a0 : (List Int)) (a1 : (List Int)) (r : Bool) (h : gf_slices_Equal_int_int a0 a1 = some r) : Does G if_slices_Equal_int_int ks_slices_Equal_int_int (c_slices_Equal_int_int.args (a0, a1)) [] (c_slices_Equal_int_int.ans (a0, a1) r) := by
  refine does_pn (L := [(0, .ro (List.map eInt a0)), (1, .ro (List.map eInt a1))]) (fun bs => pin) fun bs t o => ?_
  show vwp _ ib_slices_Equal_int_int _ _
  unfold ib_slices_Equal_int_int
  refine w_ir ?_
  unfold gf_slices_Equal_int_int at h
  refine go ?_; intros
  refine w_cond rfl (fun c => ?_) (fun c => ?_)
  · replace h := itt h (by first | exact c | (have c2 := c; simp only [List.length_map] at c2; exact c2))
    try rw [c]
    refine go ?_; intros
    cases h
    exact r_end
  replace h := itf h (by first | exact c | (have c2 := c; simp only [List.length_map] at c2; exact c2))
  try rw [c]
  obtain ⟨hf24, h⟩ := gd h
  obtain ⟨q14, h27, h⟩ := bnd h
  refine go ?_; intros
  refine w_last (fun t o => ∃ q14_, q14 = .inr q14_ ∧ Pin t (ovr [] t) ∧ PinH o (ovh [] o)) ?_ ?_
  · refine w_loop2 (fun n t o => ∃ l18 k16  , gl_slices_Equal_int_int_1 a1 l18 k16  = some q14 ∧ n = l18.length ∧ (a0).drop k16 = l18 ∧ Pin t (ovr [(0, .ro (List.map eInt a0)), (1, .ro (List.map eInt a1)), (12, .v (.int .i64 (a0.length : Int))), (13, .v (.int .i64 (k16 : Int)))] t) ∧ PinH o (ovh [] o)) _ ⟨_, _, h27, rfl, rfl, pin, pinh⟩ ?_
    rintro n t o ⟨l18, k16, h27, rfl, hd19, pq1, pq2⟩
    refine pinned pq1 pq2 ?_
    cases l18 with
    | nil =>
      have hge21 := drop_ge hd19
      rw [gl_slices_Equal_int_int_1] at h27
      refine go ?_; intros
      rw [hge21]
      refine go ?_; intros
      cases h27
      exact k_cn ⟨_, rfl, pin, pinh⟩
    | cons x17 l18 =>
      have hlt20 := drop_lt hd19
      have hx22 := drop_ix hd19
      have hw23 := drop_wr hd19 hf24
      rw [gl_slices_Equal_int_int_1] at h27
      refine go ?_; intros
      rw [hlt20]
      refine go ?_; intros
      refine r_iro rfl rfl hx22 rfl ?_
      obtain ⟨x25, h26, h27⟩ := bnd h27
      refine go ?_; intros
      refine r_iro rfl rfl h26 rfl ?_
      refine go ?_; intros
      refine w_cond rfl (fun c => ?_) (fun c => ?_)
      · replace h27 := itt h27 c
        try rw [c]
        refine go ?_; intros
        cases h27
        replace h : some _ = some _ := h
        cases h
        exact r_end
      replace h27 := itf h27 c
      try rw [c]
      refine go ?_; intros
      rw [hw23]
      exact k_ln2 _ (Nat.lt_succ_self _) ⟨_, _, h27, rfl, drop_next hd19, pin, pinh⟩
  rintro t o ⟨q14, rfl, pq1, pq2⟩
  refine pinnedQ pq1 pq2 ?_
  refine go ?_; intros
  cases h
  exact r_end
theorem d_impl_sameCommit {G : Gam} (H_slices_Equal_int_int : Has G c_slices_Equal_int_int) (H_impl_SheetSame : Has G c_impl_SheetSame) (a0 : Commit) (a1 : Commit) (r : Bool) (h : gf_impl_sameCommit a0 a1 = some r) : Does G if_impl_sameCommit ks_impl_sameCommit (c_impl_sameCommit.args (a0, a1)) [] (c_impl_sameCommit.ans (a0, a1) r) := by
  refine does_pn (L := [(0, .agg [.ro (List.map eInt a0.up), .ro (List.map (eFeat false) a0.sheet), .v (.string a0.note)]), (1, .agg [.ro (List.map eInt a1.up), .ro (List.map (eFeat false) a1.sheet), .v (.string a1.note)])]) (fun bs => pin) fun bs t o => ?_
  show vwp _ ib_impl_sameCommit _ _
  unfold ib_impl_sameCommit
  refine w_ir ?_
  unfold gf_impl_sameCommit at h
  obtain ⟨x3, h4, h⟩ := bnd h
  refine go ?_; intros
  refine c_call (c := c_slices_Equal_int_int) (a0.up, a1.up) H_slices_Equal_int_int h4 fun ch => ?_
  refine go ?_; intros
  refine s_split rfl (fun c => ?_) (fun c => ?_)
  · replace h := itt h c
    rw [c]
    obtain ⟨x5, h6, h⟩ := bnd h
    refine go ?_; intros
    refine c_call (c := c_impl_SheetSame) (a0.sheet, a1.sheet) H_impl_SheetSame h6 fun ch => ?_
    refine go ?_; intros
    refine s_split rfl (fun c => ?_) (fun c => ?_)
    · replace h := itt h c
      rw [c]
      refine go ?_; intros
      cases h
      exact r_end
    replace h := itf h c
    rw [c]
    refine go ?_; intros
    cases h
    exact r_end
  replace h := itf h c
  rw [c]
  refine go ?_; intros
  cases h
  exact r_end
theorem d_slices_Index_int_int {G : Gam}  (a0 : (List Int)) (a1 : Int) (r : Int) (h : gf_slices_Index_int_int a0 a1 = some r) : Does G if_slices_Index_int_int ks_slices_Index_int_int (c_slices_Index_int_int.args (a0, a1)) [] (c_slices_Index_int_int.ans (a0, a1) r) := by
  refine does_pn (L := [(0, .ro (List.map eInt a0)), (1, .v (.int .i64 a1))]) (fun bs => pin) fun bs t o => ?_
  show vwp _ ib_slices_Index_int_int _ _
  unfold ib_slices_Index_int_int
  refine w_ir ?_
  unfold gf_slices_Index_int_int at h
  obtain ⟨hf18, h⟩ := gd h
  obtain ⟨q8, h19, h⟩ := bnd h
  refine go ?_; intros
  refine w_last (fun t o => ∃ q8_, q8 = .inr q8_ ∧ Pin t (ovr [] t) ∧ PinH o (ovh [] o)) ?_ ?_
  · refine w_loop2 (fun n t o => ∃ l12 k10  , gl_slices_Index_int_int_1 a1 l12 k10  = some q8 ∧ n = l12.length ∧ (a0).drop k10 = l12 ∧ Pin t (ovr [(0, .ro (List.map eInt a0)), (1, .v (.int .i64 a1)), (7, .v (.int .i64 (a0.length : Int))), (8, .v (.int .i64 (k10 : Int)))] t) ∧ PinH o (ovh [] o)) _ ⟨_, _, h19, rfl, rfl, pin, pinh⟩ ?_
    rintro n t o ⟨l12, k10, h19, rfl, hd13, pq1, pq2⟩
    refine pinned pq1 pq2 ?_
    cases l12 with
    | nil =>
      have hge15 := drop_ge hd13
      rw [gl_slices_Index_int_int_1] at h19
      refine go ?_; intros
      rw [hge15]
      refine go ?_; intros
      cases h19
      exact k_cn ⟨_, rfl, pin, pinh⟩
    | cons x11 l12 =>
      have hlt14 := drop_lt hd13
      have hx16 := drop_ix hd13
      have hw17 := drop_wr hd13 hf18
      rw [gl_slices_Index_int_int_1] at h19
      refine go ?_; intros
      rw [hlt14]
      refine go ?_; intros
      refine r_iro rfl rfl hx16 rfl ?_
      refine go ?_; intros
      refine w_cond rfl (fun c => ?_) (fun c => ?_)
      · replace h19 := itt h19 c
        try rw [c]
        refine go ?_; intros
        cases h19
        replace h : some _ = some _ := h
        cases h
        exact r_end
      replace h19 := itf h19 c
      try rw [c]
      refine go ?_; intros
      rw [hw17]
      exact k_ln2 _ (Nat.lt_succ_self _) ⟨_, _, h19, rfl, drop_next hd13, pin, pinh⟩
  rintro t o ⟨q8, rfl, pq1, pq2⟩
  refine pinnedQ pq1 pq2 ?_
  refine go ?_; intros
  cases h
  exact r_end
theorem d_impl_SheetOk {G : Gam} (H_impl_FeatOk : Has G c_impl_FeatOk) (a0 : (List Feat)) (r : Bool) (h : gf_impl_SheetOk a0 = some r) : Does G if_impl_SheetOk ks_impl_SheetOk (c_impl_SheetOk.args (a0)) [] (c_impl_SheetOk.ans (a0) r) := by
  refine does_pn (L := [(0, .ro (List.map (eFeat false) a0))]) (fun bs => pin) fun bs t o => ?_
  show vwp _ ib_impl_SheetOk _ _
  unfold ib_impl_SheetOk
  refine w_ir ?_
  unfold gf_impl_SheetOk at h
  obtain ⟨hf31, h⟩ := gd h
  obtain ⟨q21, h37, h⟩ := bnd h
  refine go ?_; intros
  refine w_last (fun t o => ∃ q21_, q21 = .inr q21_ ∧ Pin t (ovr [(0, .ro (List.map (eFeat false) a0))] t) ∧ PinH o (ovh [] o)) ?_ ?_
  · refine w_loop2 (fun n t o => ∃ l25 k23  , gl_impl_SheetOk_1 a0 l25 k23  = some q21 ∧ n = l25.length ∧ (a0).drop k23 = l25 ∧ Pin t (ovr [(0, .ro (List.map (eFeat false) a0)), (5, .ro (List.map (eFeat false) a0)), (6, .v (.int .i64 (a0.length : Int))), (7, .v (.int .i64 (k23 : Int)))] t) ∧ PinH o (ovh [] o)) _ ⟨_, _, h37, rfl, rfl, pin, pinh⟩ ?_
    rintro n t o ⟨l25, k23, h37, rfl, hd26, pq1, pq2⟩
    refine pinned pq1 pq2 ?_
    cases l25 with
    | nil =>
      have hge28 := drop_ge hd26
      rw [gl_impl_SheetOk_1] at h37
      refine go ?_; intros
      rw [hge28]
      refine go ?_; intros
      cases h37
      exact k_cn ⟨_, rfl, pin, pinh⟩
    | cons x24 l25 =>
      have hlt27 := drop_lt hd26
      have hx29 := drop_ix hd26
      have hw30 := drop_wr hd26 hf31
      rw [gl_impl_SheetOk_1] at h37
      refine go ?_; intros
      rw [hlt27]
      refine go ?_; intros
      refine r_iro rfl rfl hx29 rfl ?_
      obtain ⟨x33, h34, h37⟩ := bnd h37
      refine go ?_; intros
      refine c_call (c := c_impl_FeatOk) (x24) H_impl_FeatOk h34 fun ch => ?_
      refine go ?_; intros
      refine s_split rfl (fun c => ?_) (fun c => ?_)
      · replace h37 := itt h37 c
        rw [c]
        refine go ?_; intros
        cases h37
        replace h : some _ = some _ := h
        cases h
        exact r_end
      replace h37 := itf h37 c
      rw [c]
      refine go ?_; intros
      refine s_split rfl (fun c => ?_) (fun c => ?_)
      · replace h37 := itt h37 c
        rw [c]
        obtain ⟨x35, h36, h37⟩ := bnd h37
        refine go ?_; intros
        refine r_iro rfl rfl h36 rfl ?_
        refine go ?_; intros
        refine w_cond rfl (fun c => ?_) (fun c => ?_)
        · replace h37 := itt h37 c
          try rw [c]
          refine go ?_; intros
          cases h37
          replace h : some _ = some _ := h
          cases h
          exact r_end
        replace h37 := itf h37 c
        try rw [c]
        refine go ?_; intros
        rw [hw30]
        exact k_ln2 _ (Nat.lt_succ_self _) ⟨_, _, h37, rfl, drop_next hd26, pin, pinh⟩
      replace h37 := itf h37 c
      rw [c]
      refine go ?_; intros
      rw [hw30]
      exact k_ln2 _ (Nat.lt_succ_self _) ⟨_, _, h37, rfl, drop_next hd26, pin, pinh⟩
  rintro t o ⟨q21, rfl, pq1, pq2⟩
  refine pinnedQ pq1 pq2 ?_
  refine go ?_; intros
  cases h
  exact r_end
theorem d_impl_Repo_commit_1 {G : Gam} (H_impl_sameCommit : Has G c_impl_sameCommit) (a0 : Commit) (a1 : Commit) (r : Bool) (h : gf_impl_Repo_commit_1 a0 a1 = some r) : Does G if_impl_Repo_commit_1 ks_impl_Repo_commit_1 (c_impl_Repo_commit_1.args (a0, a1)) [] (c_impl_Repo_commit_1.ans (a0, a1) r) := by
  refine does_pn (L := [(0, .agg [.ro (List.map eInt a0.up), .ro (List.map (eFeat false) a0.sheet), .v (.string a0.note)]), (1, .rptr [.sl false 1 (List.map eInt a1.up), .sl false 4 (List.map (eFeat false) a1.sheet), .v (.string a1.note)])]) (fun bs => pin) fun bs t o => ?_
  show vwp _ ib_impl_Repo_commit_1 _ _
  unfold ib_impl_Repo_commit_1
  refine w_ir ?_
  unfold gf_impl_Repo_commit_1 at h
  obtain ⟨x2, h3, h⟩ := bnd h
  refine go ?_; intros
  refine c_call (c := c_impl_sameCommit) (a0, a1) H_impl_sameCommit h3 fun ch => ?_
  refine go ?_; intros
  cases h
  exact r_end
theorem d_slices_IndexFunc_impl_Commit_impl_Commit__impl_Repo_commit_1 {G : Gam} (H_impl_Repo_commit_1 : Has G c_impl_Repo_commit_1) (a0 : (List Commit)) (a1 : Commit) (r : Int) (h : gf_slices_IndexFunc_impl_Commit_impl_Commit__impl_Repo_commit_1 a0 a1 = some r) : Does G if_slices_IndexFunc_impl_Commit_impl_Commit ks_slices_IndexFunc_impl_Commit_impl_Commit (c_slices_IndexFunc_impl_Commit_impl_Commit__impl_Repo_commit_1.args (a0, a1)) [] (c_slices_IndexFunc_impl_Commit_impl_Commit__impl_Repo_commit_1.ans (a0, a1) r) := by
  refine does_pn (L := [(0, .ro (List.map (eCommit false) a0)), (1, .fn 83 [.rptr [.sl false 1 (List.map eInt a1.up), .sl false 4 (List.map (eFeat false) a1.sheet), .v (.string a1.note)]])]) (fun bs => pin) fun bs t o => ?_
  show vwp _ ib_slices_IndexFunc_impl_Commit_impl_Commit _ _
  unfold ib_slices_IndexFunc_impl_Commit_impl_Commit
  refine w_ir ?_
  unfold gf_slices_IndexFunc_impl_Commit_impl_Commit__impl_Repo_commit_1 at h
  obtain ⟨hf24, h⟩ := gd h
  obtain ⟨q14, h27, h⟩ := bnd h
  refine go ?_; intros
  refine w_last (fun t o => ∃ q14_, q14 = .inr q14_ ∧ Pin t (ovr [] t) ∧ PinH o (ovh [] o)) ?_ ?_
  · refine w_loop2 (fun n t o => ∃ l18 k16  , gl_slices_IndexFunc_impl_Commit_impl_Commit__impl_Repo_commit_1_1 a1 l18 k16  = some q14 ∧ n = l18.length ∧ (a0).drop k16 = l18 ∧ Pin t (ovr [(0, .ro (List.map (eCommit false) a0)), (1, .fn 83 [.rptr [.sl false 1 (List.map eInt a1.up), .sl false 4 (List.map (eFeat false) a1.sheet), .v (.string a1.note)]]), (7, .v (.int .i64 (a0.length : Int))), (8, .v (.int .i64 (k16 : Int)))] t) ∧ PinH o (ovh [] o)) _ ⟨_, _, h27, rfl, rfl, pin, pinh⟩ ?_
    rintro n t o ⟨l18, k16, h27, rfl, hd19, pq1, pq2⟩
    refine pinned pq1 pq2 ?_
    cases l18 with
    | nil =>
      have hge21 := drop_ge hd19
      rw [gl_slices_IndexFunc_impl_Commit_impl_Commit__impl_Repo_commit_1_1] at h27
      refine go ?_; intros
      rw [hge21]
      refine go ?_; intros
      cases h27
      exact k_cn ⟨_, rfl, pin, pinh⟩
    | cons x17 l18 =>
      have hlt20 := drop_lt hd19
      have hx22 := drop_ix hd19
      have hw23 := drop_wr hd19 hf24
      rw [gl_slices_IndexFunc_impl_Commit_impl_Commit__impl_Repo_commit_1_1] at h27
      refine go ?_; intros
      rw [hlt20]
      refine go ?_; intros
      refine r_iro rfl rfl hx22 rfl ?_
      obtain ⟨x25, h26, h27⟩ := bnd h27
      refine go ?_; intros
      refine c_calld (c := c_impl_Repo_commit_1) (x17, a1) H_impl_Repo_commit_1 h26 fun ch => ?_
      refine go ?_; intros
      refine w_cond rfl (fun c => ?_) (fun c => ?_)
      · replace h27 := itt h27 c
        try rw [c]
        refine go ?_; intros
        cases h27
        replace h : some _ = some _ := h
        cases h
        exact r_end
      replace h27 := itf h27 c
      try rw [c]
      refine go ?_; intros
      rw [hw23]
      exact k_ln2 _ (Nat.lt_succ_self _) ⟨_, _, h27, rfl, drop_next hd19, pin, pinh⟩
  rintro t o ⟨q14, rfl, pq1, pq2⟩
  refine pinnedQ pq1 pq2 ?_
  refine go ?_; intros
  cases h
  exact r_end
theorem d_impl_Repo_commit {G : Gam} (H_slices_IndexFunc_impl_Commit_impl_Commit__impl_Repo_commit_1 : Has G c_slices_IndexFunc_impl_Commit_impl_Commit__impl_Repo_commit_1) (a0 : Repo) (a1 : Commit) (r : Int) (h : gf_impl_Repo_commit a0 a1 = some r) : Does G if_impl_Repo_commit ks_impl_Repo_commit (c_impl_Repo_commit.args (a0, a1)) [] (c_impl_Repo_commit.ans (a0, a1) r) := by
  refine does_pn (L := [(0, .agg [.ro (List.map (eCommit false) a0.commits), .ro (List.map eHead a0.heads)]), (1, .agg [.ro (List.map eInt a1.up), .ro (List.map (eFeat false) a1.sheet), .v (.string a1.note)])]) (fun bs => pin) fun bs t o => ?_
  show vwp _ ib_impl_Repo_commit _ _
  unfold ib_impl_Repo_commit
  refine w_ir ?_
  unfold gf_impl_Repo_commit at h
  obtain ⟨x3, h4, h⟩ := bnd h
  refine go ?_; intros
  refine c_call (c := c_slices_IndexFunc_impl_Commit_impl_Commit__impl_Repo_commit_1) (a0.commits, a1) H_slices_IndexFunc_impl_Commit_impl_Commit__impl_Repo_commit_1 h4 fun ch => ?_
  refine go ?_; intros
  cases h
  exact r_end
theorem d_slices_Contains_int_int {G : Gam} (H_slices_Index_int_int : Has G c_slices_Index_int_int) (a0 : (List Int)) (a1 : Int) (r : Bool) (h : gf_slices_Contains_int_int a0 a1 = some r) : Does G if_slices_Contains_int_int ks_slices_Contains_int_int (c_slices_Contains_int_int.args (a0, a1)) [] (c_slices_Contains_int_int.ans (a0, a1) r) := by
  refine does_pn (L := [(0, .ro (List.map eInt a0)), (1, .v (.int .i64 a1))]) (fun bs => pin) fun bs t o => ?_
  show vwp _ ib_slices_Contains_int_int _ _
  unfold ib_slices_Contains_int_int
  refine w_ir ?_
  unfold gf_slices_Contains_int_int at h
  obtain ⟨x1, h2, h⟩ := bnd h
  refine go ?_; intros
  refine c_call (c := c_slices_Index_int_int) (a0, a1) H_slices_Index_int_int h2 fun ch => ?_
  refine go ?_; intros
  cases h
  exact r_end
theorem d_impl_Repo_head_1 {G : Gam}  (a0 : Head) (a1 : Str) (r : Bool) (h : gf_impl_Repo_head_1 a0 a1 = some r) : Does G if_impl_Repo_head_1 ks_impl_Repo_head_1 (c_impl_Repo_head_1.args (a0, a1)) [] (c_impl_Repo_head_1.ans (a0, a1) r) := by
  refine does_pn (L := [(0, .agg [.v (.string a0.name), .v (.int .i64 a0.at_)]), (1, .rptr [.v (.string a1)])]) (fun bs => pin) fun bs t o => ?_
  show vwp _ ib_impl_Repo_head_1 _ _
  unfold ib_impl_Repo_head_1
  refine w_ir ?_
  unfold gf_impl_Repo_head_1 at h
  refine go ?_; intros
  cases h
  exact r_end
theorem d_slices_IndexFunc_impl_Head_impl_Head__impl_Repo_head_1 {G : Gam} (H_impl_Repo_head_1 : Has G c_impl_Repo_head_1) (a0 : (List Head)) (a1 : Str) (r : Int) (h : gf_slices_IndexFunc_impl_Head_impl_Head__impl_Repo_head_1 a0 a1 = some r) : Does G if_slices_IndexFunc_impl_Head_impl_Head ks_slices_IndexFunc_impl_Head_impl_Head (c_slices_IndexFunc_impl_Head_impl_Head__impl_Repo_head_1.args (a0, a1)) [] (c_slices_IndexFunc_impl_Head_impl_Head__impl_Repo_head_1.ans (a0, a1) r) := by
  refine does_pn (L := [(0, .ro (List.map eHead a0)), (1, .fn 77 [.rptr [.v (.string a1)]])]) (fun bs => pin) fun bs t o => ?_
  show vwp _ ib_slices_IndexFunc_impl_Head_impl_Head _ _
  unfold ib_slices_IndexFunc_impl_Head_impl_Head
  refine w_ir ?_
  unfold gf_slices_IndexFunc_impl_Head_impl_Head__impl_Repo_head_1 at h
  obtain ⟨hf24, h⟩ := gd h
  obtain ⟨q14, h27, h⟩ := bnd h
  refine go ?_; intros
  refine w_last (fun t o => ∃ q14_, q14 = .inr q14_ ∧ Pin t (ovr [] t) ∧ PinH o (ovh [] o)) ?_ ?_
  · refine w_loop2 (fun n t o => ∃ l18 k16  , gl_slices_IndexFunc_impl_Head_impl_Head__impl_Repo_head_1_1 a1 l18 k16  = some q14 ∧ n = l18.length ∧ (a0).drop k16 = l18 ∧ Pin t (ovr [(0, .ro (List.map eHead a0)), (1, .fn 77 [.rptr [.v (.string a1)]]), (7, .v (.int .i64 (a0.length : Int))), (8, .v (.int .i64 (k16 : Int)))] t) ∧ PinH o (ovh [] o)) _ ⟨_, _, h27, rfl, rfl, pin, pinh⟩ ?_
    rintro n t o ⟨l18, k16, h27, rfl, hd19, pq1, pq2⟩
    refine pinned pq1 pq2 ?_
    cases l18 with
    | nil =>
      have hge21 := drop_ge hd19
      rw [gl_slices_IndexFunc_impl_Head_impl_Head__impl_Repo_head_1_1] at h27
      refine go ?_; intros
      rw [hge21]
      refine go ?_; intros
      cases h27
      exact k_cn ⟨_, rfl, pin, pinh⟩
    | cons x17 l18 =>
      have hlt20 := drop_lt hd19
      have hx22 := drop_ix hd19
      have hw23 := drop_wr hd19 hf24
      rw [gl_slices_IndexFunc_impl_Head_impl_Head__impl_Repo_head_1_1] at h27
      refine go ?_; intros
      rw [hlt20]
      refine go ?_; intros
      refine r_iro rfl rfl hx22 rfl ?_
      obtain ⟨x25, h26, h27⟩ := bnd h27
      refine go ?_; intros
      refine c_calld (c := c_impl_Repo_head_1) (x17, a1) H_impl_Repo_head_1 h26 fun ch => ?_
      refine go ?_; intros
      refine w_cond rfl (fun c => ?_) (fun c => ?_)
      · replace h27 := itt h27 c
        try rw [c]
        refine go ?_; intros
        cases h27
        replace h : some _ = some _ := h
        cases h
        exact r_end
      replace h27 := itf h27 c
      try rw [c]
      refine go ?_; intros
      rw [hw23]
      exact k_ln2 _ (Nat.lt_succ_self _) ⟨_, _, h27, rfl, drop_next hd19, pin, pinh⟩
  rintro t o ⟨q14, rfl, pq1, pq2⟩
  refine pinnedQ pq1 pq2 ?_
  refine go ?_; intros
  cases h
  exact r_end
theorem d_impl_Repo_head {G : Gam} (H_slices_IndexFunc_impl_Head_impl_Head__impl_Repo_head_1 : Has G c_slices_IndexFunc_impl_Head_impl_Head__impl_Repo_head_1) (a0 : Repo) (a1 : Str) (r : Int) (h : gf_impl_Repo_head a0 a1 = some r) : Does G if_impl_Repo_head ks_impl_Repo_head (c_impl_Repo_head.args (a0, a1)) [] (c_impl_Repo_head.ans (a0, a1) r) := by
  refine does_pn (L := [(0, .agg [.ro (List.map (eCommit false) a0.commits), .ro (List.map eHead a0.heads)]), (1, .v (.string a1))]) (fun bs => pin) fun bs t o => ?_
  show vwp _ ib_impl_Repo_head _ _
  unfold ib_impl_Repo_head
  refine w_ir ?_
  unfold gf_impl_Repo_head at h
  obtain ⟨x3, h4, h⟩ := bnd h
  refine go ?_; intros
  refine c_call (c := c_slices_IndexFunc_impl_Head_impl_Head__impl_Repo_head_1) (a0.heads, a1) H_slices_IndexFunc_impl_Head_impl_Head__impl_Repo_head_1 h4 fun ch => ?_
  refine go ?_; intros
  cases h
  exact r_end
theorem d_impl_Repo_version {G : Gam} (H_impl_within : Has G c_impl_within) (a0 : Repo) (a1 : Int) (r : Bool) (h : gf_impl_Repo_version a0 a1 = some r) : Does G if_impl_Repo_version ks_impl_Repo_version (c_impl_Repo_version.args (a0, a1)) [] (c_impl_Repo_version.ans (a0, a1) r) := by
  refine does_pn (L := [(0, .agg [.ro (List.map (eCommit false) a0.commits), .ro (List.map eHead a0.heads)]), (1, .v (.int .i64 a1))]) (fun bs => pin) fun bs t o => ?_
  show vwp _ ib_impl_Repo_version _ _
  unfold ib_impl_Repo_version
  refine w_ir ?_
  unfold gf_impl_Repo_version at h
  obtain ⟨x2, h3, h⟩ := bnd h
  refine go ?_; intros
  refine c_call (c := c_impl_within) (a1, 0, (IntKind.i64.wrap ((a0.commits.length : Int) - 1))) H_impl_within h3 fun ch => ?_
  refine go ?_; intros
  cases h
  exact r_end
theorem d_impl_cloneShape {G : Gam}  (a0 : Shape) (r : Shape) (h : gf_impl_cloneShape a0 = some r) : Does G if_impl_cloneShape ks_impl_cloneShape (c_impl_cloneShape.args (a0)) [] (c_impl_cloneShape.ans (a0) r) := by
  refine does_pn (L := [(0, .agg [.v (.int .i64 a0.kind), .ro (List.map ePt a0.pts)])]) (fun bs => pin) fun bs t o => ?_
  show vwp _ ib_impl_cloneShape _ _
  unfold ib_impl_cloneShape
  refine w_ir ?_
  unfold gf_impl_cloneShape at h
  obtain ⟨h6, h⟩ := gd h
  refine go ?_; intros
  refine r_app (f := ePt) (xs := ([] : (List Pt))) (ys := a0.pts) rfl (src_ro (fun _ => rfl) (fun _ => rfl)) rfl rfl (by first | rfl | simp) h6 fun b4 c5 => ?_
  refine go ?_; intros
  cases h
  exact r_end
theorem d_impl_cloneFeat {G : Gam} (H_impl_cloneShape : Has G c_impl_cloneShape) (a0 : Feat) (r : Feat) (h : gf_impl_cloneFeat a0 = some r) : Does G if_impl_cloneFeat ks_impl_cloneFeat (c_impl_cloneFeat.args (a0)) [] (c_impl_cloneFeat.ans (a0) r) := by
  refine does_pn (L := [(0, .agg [.v (.string a0.id), .v (.int .i64 a0.shape.kind), .ro (List.map ePt a0.shape.pts), .ro (List.map eTag a0.tags)])]) (fun bs => pin) fun bs t o => ?_
  show vwp _ ib_impl_cloneFeat _ _
  unfold ib_impl_cloneFeat
  refine w_ir ?_
  unfold gf_impl_cloneFeat at h
  obtain ⟨x3, h4, h⟩ := bnd h
  refine go ?_; intros
  refine c_call (c := c_impl_cloneShape) (a0.shape) H_impl_cloneShape h4 fun ch => ?_
  obtain ⟨h10, h⟩ := gd h
  refine go ?_; intros
  refine r_app (f := eTag) (xs := ([] : (List Tag))) (ys := a0.tags) rfl (src_ro (fun _ => rfl) (fun _ => rfl)) rfl rfl (by first | rfl | simp) h10 fun b8 c9 => ?_
  refine go ?_; intros
  cases h
  exact r_end
theorem d_impl_cloneSheet {G : Gam} (H_impl_cloneFeat : Has G c_impl_cloneFeat) (a0 : (List Feat)) (r : (List Feat)) (h : gf_impl_cloneSheet a0 = some r) : Does G if_impl_cloneSheet ks_impl_cloneSheet (c_impl_cloneSheet.args (a0)) [] (c_impl_cloneSheet.ans (a0) r) := by
  refine does_pn (L := [(0, .ro (List.map (eFeat false) a0))]) (fun bs => pin) fun bs t o => ?_
  show vwp _ ib_impl_cloneSheet _ _
  unfold ib_impl_cloneSheet
  refine w_ir ?_
  unfold gf_impl_cloneSheet at h
  obtain ⟨hf60, h⟩ := gd h
  obtain ⟨q47, h75, h⟩ := bnd h
  refine go ?_; intros
  refine w_last (fun t o => ∃ b73 c74, Pin t (ovr [(3, .ref 48 b73 c74 0 q47.length 100)] t) ∧ PinH o (ovh [(48, ent b73 c74 100 (List.map (eFeat true) q47))] o)) ?_ ?_
  · refine w_loop2 (fun n t o => ∃ l54 k52 v49 b50 c51, gl_impl_cloneSheet_1 l54 k52 v49 = some q47 ∧ n = l54.length ∧ (a0).drop k52 = l54 ∧ Pin t (ovr [(3, .ref 48 b50 c51 0 v49.length 100), (7, .ro (List.map (eFeat false) a0)), (8, .v (.int .i64 (a0.length : Int))), (9, .v (.int .i64 (k52 : Int)))] t) ∧ PinH o (ovh [(48, ent b50 c51 100 (List.map (eFeat true) v49))] o)) _ ⟨_, _, _, _, _, h75, rfl, rfl, pin, pinh⟩ ?_
    rintro n t o ⟨l54, k52, v49, b50, c51, h75, rfl, hd55, pq1, pq2⟩
    refine pinned pq1 pq2 ?_
    cases l54 with
    | nil =>
      have hge57 := drop_ge hd55
      rw [gl_impl_cloneSheet_1] at h75
      refine go ?_; intros
      rw [hge57]
      refine go ?_; intros
      cases h75
      exact k_cn ⟨_, _, pin, pinh⟩
    | cons x53 l54 =>
      have hlt56 := drop_lt hd55
      have hx58 := drop_ix hd55
      have hw59 := drop_wr hd55 hf60
      rw [gl_impl_cloneSheet_1] at h75
      refine go ?_; intros
      rw [hlt56]
      refine go ?_; intros
      refine r_iro rfl rfl hx58 rfl ?_
      obtain ⟨x62, h63, h75⟩ := bnd h75
      refine go ?_; intros
      refine c_call (c := c_impl_cloneFeat) (x53) H_impl_cloneFeat h63 fun ch => ?_
      refine go ?_; intros
      try simp only [take_map_len, take_ent]
      obtain ⟨h71, h75⟩ := gd h75
      refine go ?_; intros
      refine r_app (f := (eFeat true)) (xs := v49) (ys := ([x62] : (List Feat))) rfl (src_mv rfl rfl (by first | rfl | simp)) rfl rfl (by first | rfl | simp) h71 fun b69 c70 => ?_
      refine go ?_; intros
      rw [hw59]
      exact k_ln2 _ (Nat.lt_succ_self _) ⟨_, _, _, _, _, h75, rfl, drop_next hd55, pin, pinh⟩
  rintro t o ⟨b73, c74, pq1, pq2⟩
  refine pinnedQ pq1 pq2 ?_
  refine go ?_; intros
  cases h
  exact r_end
theorem d_impl_cloneCommit {G : Gam} (H_impl_cloneSheet : Has G c_impl_cloneSheet) (a0 : Commit) (r : Commit) (h : gf_impl_cloneCommit a0 = some r) : Does G if_impl_cloneCommit ks_impl_cloneCommit (c_impl_cloneCommit.args (a0)) [] (c_impl_cloneCommit.ans (a0) r) := by
  refine does_pn (L := [(0, .agg [.ro (List.map eInt a0.up), .ro (List.map (eFeat false) a0.sheet), .v (.string a0.note)])]) (fun bs => pin) fun bs t o => ?_
  show vwp _ ib_impl_cloneCommit _ _
  unfold ib_impl_cloneCommit
  refine w_ir ?_
  unfold gf_impl_cloneCommit at h
  obtain ⟨h6, h⟩ := gd h
  refine go ?_; intros
  refine r_app (f := eInt) (xs := ([] : (List Int))) (ys := a0.up) rfl (src_ro (fun _ => rfl) (fun _ => rfl)) rfl rfl (by first | rfl | simp) h6 fun b4 c5 => ?_
  obtain ⟨x7, h8, h⟩ := bnd h
  refine go ?_; intros
  refine c_call (c := c_impl_cloneSheet) (a0.sheet) H_impl_cloneSheet h8 fun ch => ?_
  refine go ?_; intros
  cases h
  exact r_end
theorem d_impl_RepoOk {G : Gam} (H_impl_within : Has G c_impl_within) (H_impl_SheetOk : Has G c_impl_SheetOk) (H_impl_WordOk : Has G c_impl_WordOk) (H_impl_Repo_commit : Has G c_impl_Repo_commit) (H_slices_Contains_int_int : Has G c_slices_Contains_int_int) (H_impl_Repo_head : Has G c_impl_Repo_head) (H_impl_Repo_version : Has G c_impl_Repo_version) (a0 : Repo) (r : Bool) (h : gf_impl_RepoOk a0 = some r) : Does G if_impl_RepoOk ks_impl_RepoOk (c_impl_RepoOk.args (a0)) [] (c_impl_RepoOk.ans (a0) r) := by
  refine does_pn (L := [(0, .agg [.ro (List.map (eCommit false) a0.commits), .ro (List.map eHead a0.heads)])]) (fun bs => pin) fun bs t o => ?_
  show vwp _ ib_impl_RepoOk _ _
  unfold ib_impl_RepoOk
  refine w_ir ?_
  unfold gf_impl_RepoOk at h
  obtain ⟨x2, h3, h⟩ := bnd h
  refine go ?_; intros
  refine c_call (c := c_impl_within) ((a0.commits.length : Int), 1, 14) H_impl_within h3 fun ch => ?_
  refine go ?_; intros
  refine s_split rfl (fun c => ?_) (fun c => ?_)
  · replace h := itt h c
    rw [c]
    refine go ?_; intros
    cases h
    exact r_end
  replace h := itf h c
  rw [c]
  obtain ⟨x4, h5, h⟩ := bnd h
  refine go ?_; intros
  refine c_call (c := c_impl_within) ((a0.heads.length : Int), 1, 4) H_impl_within h5 fun ch => ?_
  refine go ?_; intros
  refine w_cond rfl (fun c => ?_) (fun c => ?_)
  · replace h := itt h c
    try rw [c]
    refine go ?_; intros
    cases h
    exact r_end
  replace h := itf h c
  try rw [c]
  obtain ⟨hf197, h⟩ := gd h
  obtain ⟨q186, h305, h⟩ := bnd h
  refine go ?_; intros
  refine w_last (fun t o => ∃ q186_, q186 = .inr q186_ ∧ ∃ b255, Pin t (ovr [(1, .ptr 8 b255 210 0 0)] t) ∧ PinH o (ovh [(8, ⟨b255, 1, 210, true, [[.sl false 3 (List.map (eCommit false) a0.commits), .sl false 2 (List.map eHead a0.heads)]]⟩)] o)) ?_ ?_
  · refine w_loop2 (fun n t o => ∃ l191 k189  b188, gl_impl_RepoOk_4 a0 l191 k189  = some q186 ∧ n = l191.length ∧ (a0.commits).drop k189 = l191 ∧ Pin t (ovr [(1, .ptr 8 b188 210 0 0), (22, .ro (List.map (eCommit false) a0.commits)), (23, .v (.int .i64 (a0.commits.length : Int))), (24, .v (.int .i64 (k189 : Int)))] t) ∧ PinH o (ovh [(8, ⟨b188, 1, 210, true, [[.sl false 3 (List.map (eCommit false) a0.commits), .sl false 2 (List.map eHead a0.heads)]]⟩)] o)) _ ⟨_, _, _, h305, rfl, rfl, pin, pinh⟩ ?_
    rintro n t o ⟨l191, k189, b188, h305, rfl, hd192, pq1, pq2⟩
    refine pinned pq1 pq2 ?_
    cases l191 with
    | nil =>
      have hge194 := drop_ge hd192
      rw [gl_impl_RepoOk_4] at h305
      refine go ?_; intros
      rw [hge194]
      refine go ?_; intros
      cases h305
      exact k_cn ⟨_, rfl, _, pin, pinh⟩
    | cons x190 l191 =>
      have hlt193 := drop_lt hd192
      have hx195 := drop_ix hd192
      have hw196 := drop_wr hd192 hf197
      rw [gl_impl_RepoOk_4] at h305
      refine go ?_; intros
      rw [hlt193]
      refine go ?_; intros
      refine r_iro rfl rfl hx195 rfl ?_
      obtain ⟨x199, h200, h305⟩ := bnd h305
      refine go ?_; intros
      refine c_call (c := c_impl_SheetOk) (x190.sheet) H_impl_SheetOk h200 fun ch => ?_
      refine go ?_; intros
      refine s_split rfl (fun c => ?_) (fun c => ?_)
      · replace h305 := itt h305 c
        rw [c]
        refine go ?_; intros
        cases h305
        replace h : some _ = some _ := h
        cases h
        exact r_end
      replace h305 := itf h305 c
      rw [c]
      obtain ⟨x201, h202, h305⟩ := bnd h305
      refine go ?_; intros
      refine c_call (c := c_impl_WordOk) (x190.note) H_impl_WordOk h202 fun ch => ?_
      refine go ?_; intros
      refine s_split rfl (fun c => ?_) (fun c => ?_)
      · replace h305 := itt h305 c
        rw [c]
        refine go ?_; intros
        cases h305
        replace h : some _ = some _ := h
        cases h
        exact r_end
      replace h305 := itf h305 c
      rw [c]
      obtain ⟨x203, h204, h305⟩ := bnd h305
      refine go ?_; intros
      refine c_call (c := c_impl_Repo_commit) (a0, x190) H_impl_Repo_commit h204 fun ch => ?_
      refine go ?_; intros
      refine s_split rfl (fun c => ?_) (fun c => ?_)
      · replace h305 := itt h305 c
        rw [c]
        refine go ?_; intros
        cases h305
        replace h : some _ = some _ := h
        cases h
        exact r_end
      replace h305 := itf h305 c
      rw [c]
      refine go ?_; intros
      refine s_split rfl (fun c => ?_) (fun c => ?_)
      · replace h305 := itt h305 (by first | exact c | (have c2 := c; simp only [List.length_map] at c2; exact c2))
        rw [c]
        refine go ?_; intros
        cases h305
        replace h : some _ = some _ := h
        cases h
        exact r_end
      replace h305 := itf h305 (by first | exact c | (have c2 := c; simp only [List.length_map] at c2; exact c2))
      rw [c]
      refine go ?_; intros
      refine w_cond rfl (fun c => ?_) (fun c => ?_)
      · replace h305 := itt h305 (by first | exact c | (have c2 := c; simp only [List.length_map] at c2; exact c2))
        try rw [c]
        refine go ?_; intros
        cases h305
        replace h : some _ = some _ := h
        cases h
        exact r_end
      replace h305 := itf h305 (by first | exact c | (have c2 := c; simp only [List.length_map] at c2; exact c2))
      try rw [c]
      obtain ⟨hf246, h305⟩ := gd h305
      obtain ⟨q234, h306, h305⟩ := bnd h305
      refine go ?_; intros
      refine w_last (fun t o => ∃ q234_, q234 = .inr q234_ ∧ ∃ b253 b254, Pin t (ovr [(1, .ptr 8 b253 210 0 0), (22, .ro (List.map (eCommit false) a0.commits)), (23, .v (.int .i64 (a0.commits.length : Int))), (24, .v (.int .i64 (k189 : Int))), (34, .ptr 32 b254 115 0 2), (35, .v (.string x190.note)), (36, .v (.bool x201)), (37, .v (.bool false)), (40, .agg [.ro (List.map (eCommit false) a0.commits), .ro (List.map eHead a0.heads)]), (41, .agg [.ro (List.map eInt x190.up), .ro (List.map (eFeat false) x190.sheet), .v (.string x190.note)]), (42, .v (.int .i64 x203)), (43, .v (.int .i64 (k189 : Int))), (44, .v (.bool false)), (47, .v (.int .i64 (k189 : Int))), (48, .v (.bool ((k189 : Int) == 0))), (49, .ptr 32 b254 115 0 0), (50, .ro (List.map eInt x190.up)), (51, .v (.int .i64 (x190.up.length : Int))), (52, .v (.bool ((x190.up.length : Int) == 0))), (53, .v (.bool false)), (56, .ptr 32 b254 115 0 0), (57, .ro (List.map eInt x190.up)), (58, .v (.int .i64 (x190.up.length : Int))), (59, .v (.bool false))] t) ∧ PinH o (ovh [(8, ⟨b253, 1, 210, true, [[.sl false 3 (List.map (eCommit false) a0.commits), .sl false 2 (List.map eHead a0.heads)]]⟩), (32, ⟨b254, 1, 115, true, [[.sl false 1 (List.map eInt x190.up), .sl false 4 (List.map (eFeat false) x190.sheet), .v (.string x190.note)]]⟩)] o)) ?_ ?_
      · refine w_loop2 (fun n t o => ∃ l240 k238  b236 b237, gl_impl_RepoOk_5 k189 x190 l240 k238  = some q234 ∧ n = l240.length ∧ (x190.up).drop k238 = l240 ∧ Pin t (ovr [(1, .ptr 8 b236 210 0 0), (3, .v (.int .i64 (k189 : Int))), (4, .ptr 32 b237 115 0 0), (22, .ro (List.map (eCommit false) a0.commits)), (23, .v (.int .i64 (a0.commits.length : Int))), (24, .v (.int .i64 (k189 : Int))), (34, .ptr 32 b237 115 0 2), (35, .v (.string x190.note)), (36, .v (.bool x201)), (37, .v (.bool false)), (40, .agg [.ro (List.map (eCommit false) a0.commits), .ro (List.map eHead a0.heads)]), (41, .agg [.ro (List.map eInt x190.up), .ro (List.map (eFeat false) x190.sheet), .v (.string x190.note)]), (42, .v (.int .i64 x203)), (43, .v (.int .i64 (k189 : Int))), (44, .v (.bool false)), (47, .v (.int .i64 (k189 : Int))), (48, .v (.bool ((k189 : Int) == 0))), (49, .ptr 32 b237 115 0 0), (50, .ro (List.map eInt x190.up)), (51, .v (.int .i64 (x190.up.length : Int))), (52, .v (.bool ((x190.up.length : Int) == 0))), (53, .v (.bool false)), (56, .ptr 32 b237 115 0 0), (57, .ro (List.map eInt x190.up)), (58, .v (.int .i64 (x190.up.length : Int))), (59, .v (.bool false)), (62, .ro (List.map eInt x190.up)), (63, .v (.int .i64 (x190.up.length : Int))), (64, .v (.int .i64 (k238 : Int)))] t) ∧ PinH o (ovh [(8, ⟨b236, 1, 210, true, [[.sl false 3 (List.map (eCommit false) a0.commits), .sl false 2 (List.map eHead a0.heads)]]⟩), (32, ⟨b237, 1, 115, true, [[.sl false 1 (List.map eInt x190.up), .sl false 4 (List.map (eFeat false) x190.sheet), .v (.string x190.note)]]⟩)] o)) _ ⟨_, _, _, _, h306, rfl, rfl, pin, pinh⟩ ?_
        rintro n t o ⟨l240, k238, b236, b237, h306, rfl, hd241, pq1, pq2⟩
        refine pinned pq1 pq2 ?_
        cases l240 with
        | nil =>
          have hge243 := drop_ge hd241
          rw [gl_impl_RepoOk_5] at h306
          refine go ?_; intros
          rw [hge243]
          refine go ?_; intros
          cases h306
          exact k_cn ⟨_, rfl, _, _, pin, pinh⟩
        | cons x239 l240 =>
          have hlt242 := drop_lt hd241
          have hx244 := drop_ix hd241
          have hw245 := drop_wr hd241 hf246
          rw [gl_impl_RepoOk_5] at h306
          refine go ?_; intros
          rw [hlt242]
          refine go ?_; intros
          refine r_iro rfl rfl hx244 rfl ?_
          obtain ⟨x247, h248, h306⟩ := bnd h306
          refine go ?_; intros
          refine c_call (c := c_impl_within) (x239, 0, (IntKind.i64.wrap ((k189 : Int) - 1))) H_impl_within h248 fun ch => ?_
          refine go ?_; intros
          refine s_split rfl (fun c => ?_) (fun c => ?_)
          · replace h306 := itt h306 c
            rw [c]
            refine go ?_; intros
            cases h306
            replace h305 : some _ = some _ := h305
            cases h305
            replace h : some _ = some _ := h
            cases h
            exact r_end
          replace h306 := itf h306 c
          rw [c]
          obtain ⟨x249, h250, h306⟩ := bnd h306
          refine go ?_; intros
          refine r_sls (f := eInt) rfl rfl rfl h250 (fun _ => rfl) ?_
          obtain ⟨x251, h252, h306⟩ := bnd h306
          refine go ?_; intros
          refine c_call (c := c_slices_Contains_int_int) (x249, x239) H_slices_Contains_int_int h252 fun ch => ?_
          refine go ?_; intros
          refine w_cond rfl (fun c => ?_) (fun c => ?_)
          · replace h306 := itt h306 c
            try rw [c]
            refine go ?_; intros
            cases h306
            replace h305 : some _ = some _ := h305
            cases h305
            replace h : some _ = some _ := h
            cases h
            exact r_end
          replace h306 := itf h306 c
          try rw [c]
          refine go ?_; intros
          rw [hw245]
          exact k_ln2 _ (Nat.lt_succ_self _) ⟨_, _, _, _, h306, rfl, drop_next hd241, pin, pinh⟩
      rintro t o ⟨q234, rfl, b253, b254, pq1, pq2⟩
      refine pinnedQ pq1 pq2 ?_
      refine go ?_; intros
      rw [hw196]
      exact k_ln2 _ (Nat.lt_succ_self _) ⟨_, _, _, h305, rfl, drop_next hd192, pin, pinh⟩
  rintro t o ⟨q186, rfl, b255, pq1, pq2⟩
  refine pinnedQ pq1 pq2 ?_
  obtain ⟨hf297, h⟩ := gd h
  obtain ⟨q286, h307, h⟩ := bnd h
  refine go ?_; intros
  refine w_last (fun t o => ∃ q286_, q286 = .inr q286_ ∧ Pin t (ovr [] t) ∧ PinH o (ovh [] o)) ?_ ?_
  · refine w_loop2 (fun n t o => ∃ l291 k289  b288, gl_impl_RepoOk_6 a0 l291 k289  = some q286 ∧ n = l291.length ∧ (a0.heads).drop k289 = l291 ∧ Pin t (ovr [(1, .ptr 8 b288 210 0 0), (85, .ro (List.map eHead a0.heads)), (86, .v (.int .i64 (a0.heads.length : Int))), (87, .v (.int .i64 (k289 : Int)))] t) ∧ PinH o (ovh [(8, ⟨b288, 1, 210, true, [[.sl false 3 (List.map (eCommit false) a0.commits), .sl false 2 (List.map eHead a0.heads)]]⟩)] o)) _ ⟨_, _, _, h307, rfl, rfl, pin, pinh⟩ ?_
    rintro n t o ⟨l291, k289, b288, h307, rfl, hd292, pq1, pq2⟩
    refine pinned pq1 pq2 ?_
    cases l291 with
    | nil =>
      have hge294 := drop_ge hd292
      rw [gl_impl_RepoOk_6] at h307
      refine go ?_; intros
      rw [hge294]
      refine go ?_; intros
      cases h307
      exact k_cn ⟨_, rfl, pin, pinh⟩
    | cons x290 l291 =>
      have hlt293 := drop_lt hd292
      have hx295 := drop_ix hd292
      have hw296 := drop_wr hd292 hf297
      rw [gl_impl_RepoOk_6] at h307
      refine go ?_; intros
      rw [hlt293]
      refine go ?_; intros
      refine r_iro rfl rfl hx295 rfl ?_
      obtain ⟨x299, h300, h307⟩ := bnd h307
      refine go ?_; intros
      refine c_call (c := c_impl_WordOk) (x290.name) H_impl_WordOk h300 fun ch => ?_
      refine go ?_; intros
      refine s_split rfl (fun c => ?_) (fun c => ?_)
      · replace h307 := itt h307 c
        rw [c]
        refine go ?_; intros
        cases h307
        replace h : some _ = some _ := h
        cases h
        exact r_end
      replace h307 := itf h307 c
      rw [c]
      obtain ⟨x301, h302, h307⟩ := bnd h307
      refine go ?_; intros
      refine c_call (c := c_impl_Repo_head) (a0, x290.name) H_impl_Repo_head h302 fun ch => ?_
      refine go ?_; intros
      refine s_split rfl (fun c => ?_) (fun c => ?_)
      · replace h307 := itt h307 c
        rw [c]
        refine go ?_; intros
        cases h307
        replace h : some _ = some _ := h
        cases h
        exact r_end
      replace h307 := itf h307 c
      rw [c]
      obtain ⟨x303, h304, h307⟩ := bnd h307
      refine go ?_; intros
      refine c_call (c := c_impl_Repo_version) (a0, x290.at_) H_impl_Repo_version h304 fun ch => ?_
      refine go ?_; intros
      refine w_cond rfl (fun c => ?_) (fun c => ?_)
      · replace h307 := itt h307 c
        try rw [c]
        refine go ?_; intros
        cases h307
        replace h : some _ = some _ := h
        cases h
        exact r_end
      replace h307 := itf h307 c
      try rw [c]
      refine go ?_; intros
      rw [hw296]
      exact k_ln2 _ (Nat.lt_succ_self _) ⟨_, _, _, h307, rfl, drop_next hd292, pin, pinh⟩
  rintro t o ⟨q286, rfl, pq1, pq2⟩
  refine pinnedQ pq1 pq2 ?_
  refine go ?_; intros
  cases h
  exact r_end
end Go.Proofs.AM
