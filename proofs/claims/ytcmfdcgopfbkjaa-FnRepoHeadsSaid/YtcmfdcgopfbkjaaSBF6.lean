/- A part of the proofs of this seat's statements (SBF6): lemmas on an abstract machine for the program's functions. Conditions: none. -/
import Derived.Test.YtcmfdcgopfbkjaaSBD
set_option linter.unusedVariables false
set_option linter.unusedSimpArgs false
set_option maxRecDepth 100000
set_option maxHeartbeats 4000000
namespace Go.Proofs.AM
attribute [local irreducible] vwp vstps vstpLs vstp vdo vret kseq kblk kloop kend kcut kloop2 frzV renV shutK pfzV trnV unrV
theorem d_impl_FeatSame {G : Gam} (H_impl_ShapeSame : Has G c_impl_ShapeSame) (H_slices_Equal_impl_Tag_impl_Tag : Has G c_slices_Equal_impl_Tag_impl_Tag) (a0 : Feat) (a1 : Feat) (r : Bool) (h : gf_impl_FeatSame a0 a1 = some r) : Does G if_impl_FeatSame ks_impl_FeatSame (c_impl_FeatSame.args (a0, a1)) [] (c_impl_FeatSame.ans (a0, a1) r) := by
  refine does_pn (L := [(0, .agg [.v (.string a0.id), .v (.int .i64 a0.shape.kind), .ro (List.map ePt a0.shape.pts), .ro (List.map eTag a0.tags)]), (1, .agg [.v (.string a1.id), .v (.int .i64 a1.shape.kind), .ro (List.map ePt a1.shape.pts), .ro (List.map eTag a1.tags)])]) (fun bs => pin) fun bs t o => ?_
  show vwp _ ib_impl_FeatSame _ _
  unfold ib_impl_FeatSame
  refine w_ir ?_
  unfold gf_impl_FeatSame at h
  refine go ?_; intros
  refine s_split rfl (fun c => ?_) (fun c => ?_)
  · replace h := itt h c
    rw [c]
    obtain ⟨x3, h4, h⟩ := bnd h
    refine go ?_; intros
    refine c_call (c := c_impl_ShapeSame) (a0.shape, a1.shape) H_impl_ShapeSame h4 fun ch => ?_
    refine go ?_; intros
    refine s_split rfl (fun c => ?_) (fun c => ?_)
    · replace h := itt h c
      rw [c]
      obtain ⟨x5, h6, h⟩ := bnd h
      refine go ?_; intros
      refine c_call (c := c_slices_Equal_impl_Tag_impl_Tag) (a0.tags, a1.tags) H_slices_Equal_impl_Tag_impl_Tag h6 fun ch => ?_
      refine go ?_; intros
      cases h
      exact r_end
    replace h := itf h c
    rw [c]
    refine go ?_; intros
    cases h
    exact r_end
  replace h := itf h c
  rw [c]
  refine go ?_; intros
  cases h
  exact r_end
theorem d_slices_EqualFunc_impl_Feat_impl_Feat_impl_Feat_impl_Feat__impl_FeatSame {G : Gam} (H_impl_FeatSame : Has G c_impl_FeatSame) (a0 : (List Feat)) (a1 : (List Feat)) (r : Bool) (h : gf_slices_EqualFunc_impl_Feat_impl_Feat_impl_Feat_impl_Feat__impl_FeatSame a0 a1 = some r) : Does G if_slices_EqualFunc_impl_Feat_impl_Feat_impl_Feat_impl_Feat ks_slices_EqualFunc_impl_Feat_impl_Feat_impl_Feat_impl_Feat (c_slices_EqualFunc_impl_Feat_impl_Feat_impl_Feat_impl_Feat__impl_FeatSame.args (a0, a1)) [] (c_slices_EqualFunc_impl_Feat_impl_Feat_impl_Feat_impl_Feat__impl_FeatSame.ans (a0, a1) r) := by
  refine does_pn (L := [(0, .ro (List.map (eFeat false) a0)), (1, .ro (List.map (eFeat false) a1)), (2, .fn 130 [])]) (fun bs => pin) fun bs t o => ?_
  show vwp _ ib_slices_EqualFunc_impl_Feat_impl_Feat_impl_Feat_impl_Feat _ _
  unfold ib_slices_EqualFunc_impl_Feat_impl_Feat_impl_Feat_impl_Feat
  refine w_ir ?_
  unfold gf_slices_EqualFunc_impl_Feat_impl_Feat_impl_Feat_impl_Feat__impl_FeatSame at h
  refine go ?_; intros
  refine w_cond rfl (fun c => ?_) (fun c => ?_)
  · replace h := itt h (by first | exact c | (have c2 := c; simp only [List.length_map] at c2; exact c2))
    try rw [c]
    refine go ?_; intros
    cases h
    exact r_end
  replace h := itf h (by first | exact c | (have c2 := c; simp only [List.length_map] at c2; exact c2))
  try rw [c]
  obtain ⟨hf36, h⟩ := gd h
  obtain ⟨q26, h43, h⟩ := bnd h
  refine go ?_; intros
  refine w_last (fun t o => ∃ q26_, q26 = .inr q26_ ∧ Pin t (ovr [] t) ∧ PinH o (ovh [] o)) ?_ ?_
  · refine w_loop2 (fun n t o => ∃ l30 k28  , gl_slices_EqualFunc_impl_Feat_impl_Feat_impl_Feat_impl_Feat__impl_FeatSame_1 a1 l30 k28  = some q26 ∧ n = l30.length ∧ (a0).drop k28 = l30 ∧ Pin t (ovr [(1, .ro (List.map (eFeat false) a1)), (2, .fn 130 []), (15, .ro (List.map (eFeat false) a0)), (16, .v (.int .i64 (a0.length : Int))), (17, .v (.int .i64 (k28 : Int)))] t) ∧ PinH o (ovh [] o)) _ ⟨_, _, h43, rfl, rfl, pin, pinh⟩ ?_
    rintro n t o ⟨l30, k28, h43, rfl, hd31, pq1, pq2⟩
    refine pinned pq1 pq2 ?_
    cases l30 with
    | nil =>
      have hge33 := drop_ge hd31
      rw [gl_slices_EqualFunc_impl_Feat_impl_Feat_impl_Feat_impl_Feat__impl_FeatSame_1] at h43
      refine go ?_; intros
      rw [hge33]
      refine go ?_; intros
      cases h43
      exact k_cn ⟨_, rfl, pin, pinh⟩
    | cons x29 l30 =>
      have hlt32 := drop_lt hd31
      have hx34 := drop_ix hd31
      have hw35 := drop_wr hd31 hf36
      rw [gl_slices_EqualFunc_impl_Feat_impl_Feat_impl_Feat_impl_Feat__impl_FeatSame_1] at h43
      refine go ?_; intros
      rw [hlt32]
      refine go ?_; intros
      refine r_iro rfl rfl hx34 rfl ?_
      obtain ⟨x38, h39, h43⟩ := bnd h43
      refine go ?_; intros
      refine r_iro rfl rfl h39 rfl ?_
      obtain ⟨x41, h42, h43⟩ := bnd h43
      refine go ?_; intros
      refine c_calld (c := c_impl_FeatSame) (x29, x38) H_impl_FeatSame h42 fun ch => ?_
      refine go ?_; intros
      refine w_cond rfl (fun c => ?_) (fun c => ?_)
      · replace h43 := itt h43 c
        try rw [c]
        refine go ?_; intros
        cases h43
        replace h : some _ = some _ := h
        cases h
        exact r_end
      replace h43 := itf h43 c
      try rw [c]
      refine go ?_; intros
      rw [hw35]
      exact k_ln2 _ (Nat.lt_succ_self _) ⟨_, _, h43, rfl, drop_next hd31, pin, pinh⟩
  rintro t o ⟨q26, rfl, pq1, pq2⟩
  refine pinnedQ pq1 pq2 ?_
  refine go ?_; intros
  cases h
  exact r_end
theorem d_impl_SheetSame {G : Gam} (H_slices_EqualFunc_impl_Feat_impl_Feat_impl_Feat_impl_Feat__impl_FeatSame : Has G c_slices_EqualFunc_impl_Feat_impl_Feat_impl_Feat_impl_Feat__impl_FeatSame) (a0 : (List Feat)) (a1 : (List Feat)) (r : Bool) (h : gf_impl_SheetSame a0 a1 = some r) : Does G if_impl_SheetSame ks_impl_SheetSame (c_impl_SheetSame.args (a0, a1)) [] (c_impl_SheetSame.ans (a0, a1) r) := by
  refine does_pn (L := [(0, .ro (List.map (eFeat false) a0)), (1, .ro (List.map (eFeat false) a1))]) (fun bs => pin) fun bs t o => ?_
  show vwp _ ib_impl_SheetSame _ _
  unfold ib_impl_SheetSame
  refine w_ir ?_
  unfold gf_impl_SheetSame at h
  obtain ⟨x1, h2, h⟩ := bnd h
  refine go ?_; intros
  refine c_call (c := c_slices_EqualFunc_impl_Feat_impl_Feat_impl_Feat_impl_Feat__impl_FeatSame) (a0, a1) H_slices_EqualFunc_impl_Feat_impl_Feat_impl_Feat_impl_Feat__impl_FeatSame h2 fun ch => ?_
  refine go ?_; intros
  cases h
  exact r_end
theorem d_slices_Equal_int_int {G : Gam}  (a0 : (List Int)) (a1 : (List Int)) (r : Bool) (h : gf_slices_Equal_int_int a0 a1 = some r) : Does G if_slices_Equal_int_int ks_slices_Equal_int_int (c_slices_Equal_int_int.args (a0, a1)) [] (c_slices_Equal_int_int.ans (a0, a1) r) := by
  refine does_pn (L := [(0, .ro (List.map eInt a0)), (1, .ro (List.map eInt a1))]) (fun bs => pin) fun bs t o => ?_
  show vwp _ ib_slices_Equal_int_int _ _
  unfold ib_slices_Equal_int_int
  refine w_ir ?_
  unfold gf_slices_Equal_int_int at h
  refine go ?_; intros
  refine w_cond rfl (fun c => ?_) (fun c => ?_)
  · replace h := itt h (by first | exact c | (have c2 := c; simp only [List.length_map] at c2; exact c2))
    try rw [c]
    refine go ?_; intros
    cases h
    exact r_end
  replace h := itf h (by first | exact c | (have c2 := c; simp only [List.length_map] at c2; exact c2))
  try rw [c]
  obtain ⟨hf24, h⟩ := gd h
  obtain ⟨q14, h27, h⟩ := bnd h
  refine go ?_; intros
  refine w_last (fun t o => ∃ q14_, q14 = .inr q14_ ∧ Pin t (ovr [] t) ∧ PinH o (ovh [] o)) ?_ ?_
  · refine w_loop2 (fun n t o => ∃ l18 k16  , gl_slices_Equal_int_int_1 a1 l18 k16  = some q14 ∧ n = l18.length ∧ (a0).drop k16 = l18 ∧ Pin t (ovr [(0, .ro (List.map eInt a0)), (1, .ro (List.map eInt a1)), (12, .v (.int .i64 (a0.length : Int))), (13, .v (.int .i64 (k16 : Int)))] t) ∧ PinH o (ovh [] o)) _ ⟨_, _, h27, rfl, rfl, pin, pinh⟩ ?_
    rintro n t o ⟨l18, k16, h27, rfl, hd19, pq1, pq2⟩
    refine pinned pq1 pq2 ?_
    cases l18 with
    | nil =>
      have hge21 := drop_ge hd19
      rw [gl_slices_Equal_int_int_1] at h27
      refine go ?_; intros
      rw [hge21]
      refine go ?_; intros
      cases h27
      exact k_cn ⟨_, rfl, pin, pinh⟩
    | cons x17 l18 =>
      have hlt20 := drop_lt hd19
      have hx22 := drop_ix hd19
      have hw23 := drop_wr hd19 hf24
      rw [gl_slices_Equal_int_int_1] at h27
      refine go ?_; intros
      rw [hlt20]
      refine go ?_; intros
      refine r_iro rfl rfl hx22 rfl ?_
      obtain ⟨x25, h26, h27⟩ := bnd h27
      refine go ?_; intros
      refine r_iro rfl rfl h26 rfl ?_
      refine go ?_; intros
      refine w_cond rfl (fun c => ?_) (fun c => ?_)
      · replace h27 := itt h27 c
        try rw [c]
        refine go ?_; intros
        cases h27
        replace h : some _ = some _ := h
        cases h
        exact r_end
      replace h27 := itf h27 c
      try rw [c]
      refine go ?_; intros
      rw [hw23]
      exact k_ln2 _ (Nat.lt_succ_self _) ⟨_, _, h27, rfl, drop_next hd19, pin, pinh⟩
  rintro t o ⟨q14, rfl, pq1, pq2⟩
  refine pinnedQ pq1 pq2 ?_
  refine go ?_; intros
  cases h
  exact r_end
theorem d_impl_sameCommit {G : Gam} (H_slices_Equal_int_int : Has G c_slices_Equal_int_int) (H_impl_SheetSame : Has G c_impl_SheetSame) (a0 : Commit) (a1 : Commit) (r : Bool) (h : gf_impl_sameCommit a0 a1 = some r) : Does G if_impl_sameCommit ks_impl_sameCommit (c_impl_sameCommit.args (a0, a1)) [] (c_impl_sameCommit.ans (a0, a1) r) := by
  refine does_pn (L := [(0, .agg [.ro (List.map eInt a0.up), .ro (List.map (eFeat false) a0.sheet), .v (.string a0.note)]), (1, .agg [.ro (List.map eInt a1.up), .ro (List.map (eFeat false) a1.sheet), .v (.string a1.note)])]) (fun bs => pin) fun bs t o => ?_
  show vwp _ ib_impl_sameCommit _ _
  unfold ib_impl_sameCommit
  refine w_ir ?_
  unfold gf_impl_sameCommit at h
  obtain ⟨x3, h4, h⟩ := bnd h
  refine go ?_; intros
  refine c_call (c := c_slices_Equal_int_int) (a0.up, a1.up) H_slices_Equal_int_int h4 fun ch => ?_
  refine go ?_; intros
  refine s_split rfl (fun c => ?_) (fun c => ?_)
  · replace h := itt h c
    rw [c]
    obtain ⟨x5, h6, h⟩ := bnd h
    refine go ?_; intros
    refine c_call (c := c_impl_SheetSame) (a0.sheet, a1.sheet) H_impl_SheetSame h6 fun ch => ?_
    refine go ?_; intros
    refine s_split rfl (fun c => ?_) (fun c => ?_)
    · replace h := itt h c
      rw [c]
      refine go ?_; intros
      cases h
      exact r_end
    replace h := itf h c
    rw [c]
    refine go ?_; intros
    cases h
    exact r_end
  replace h := itf h c
  rw [c]
  refine go ?_; intros
  cases h
  exact r_end
theorem d_slices_Index_int_int {G : Gam}  (a0 : (List Int)) (a1 : Int) (r : Int) (h : gf_slices_Index_int_int a0 a1 = some r) : Does G if_slices_Index_int_int ks_slices_Index_int_int (c_slices_Index_int_int.args (a0, a1)) [] (c_slices_Index_int_int.ans (a0, a1) r) := by
  refine does_pn (L := [(0, .ro (List.map eInt a0)), (1, .v (.int .i64 a1))]) (fun bs => pin) fun bs t o => ?_
  show vwp _ ib_slices_Index_int_int _ _
  unfold ib_slices_Index_int_int
  refine w_ir ?_
  unfold gf_slices_Index_int_int at h
  obtain ⟨hf18, h⟩ := gd h
  obtain ⟨q8, h19, h⟩ := bnd h
  refine go ?_; intros
  refine w_last (fun t o => ∃ q8_, q8 = .inr q8_ ∧ Pin t (ovr [] t) ∧ PinH o (ovh [] o)) ?_ ?_
  · refine w_loop2 (fun n t o => ∃ l12 k10  , gl_slices_Index_int_int_1 a1 l12 k10  = some q8 ∧ n = l12.length ∧ (a0).drop k10 = l12 ∧ Pin t (ovr [(0, .ro (List.map eInt a0)), (1, .v (.int .i64 a1)), (7, .v (.int .i64 (a0.length : Int))), (8, .v (.int .i64 (k10 : Int)))] t) ∧ PinH o (ovh [] o)) _ ⟨_, _, h19, rfl, rfl, pin, pinh⟩ ?_
    rintro n t o ⟨l12, k10, h19, rfl, hd13, pq1, pq2⟩
    refine pinned pq1 pq2 ?_
    cases l12 with
    | nil =>
      have hge15 := drop_ge hd13
      rw [gl_slices_Index_int_int_1] at h19
      refine go ?_; intros
      rw [hge15]
      refine go ?_; intros
      cases h19
      exact k_cn ⟨_, rfl, pin, pinh⟩
    | cons x11 l12 =>
      have hlt14 := drop_lt hd13
      have hx16 := drop_ix hd13
      have hw17 := drop_wr hd13 hf18
      rw [gl_slices_Index_int_int_1] at h19
      refine go ?_; intros
      rw [hlt14]
      refine go ?_; intros
      refine r_iro rfl rfl hx16 rfl ?_
      refine go ?_; intros
      refine w_cond rfl (fun c => ?_) (fun c => ?_)
      · replace h19 := itt h19 c
        try rw [c]
        refine go ?_; intros
        cases h19
        replace h : some _ = some _ := h
        cases h
        exact r_end
      replace h19 := itf h19 c
      try rw [c]
      refine go ?_; intros
      rw [hw17]
      exact k_ln2 _ (Nat.lt_succ_self _) ⟨_, _, h19, rfl, drop_next hd13, pin, pinh⟩
  rintro t o ⟨q8, rfl, pq1, pq2⟩
  refine pinnedQ pq1 pq2 ?_
  refine go ?_; intros
  cases h
  exact r_end
theorem d_impl_SheetOk {G : Gam} (H_impl_FeatOk : Has G c_impl_FeatOk) (a0 : (List Feat)) (r : Bool) (h : gf_impl_SheetOk a0 = some r) : Does G if_impl_SheetOk ks_impl_SheetOk (c_impl_SheetOk.args (a0)) [] (c_impl_SheetOk.ans (a0) r) := by
  refine does_pn (L := [(0, .ro (List.map (eFeat false) a0))]) (fun bs => pin) fun bs t o => ?_
  show vwp _ ib_impl_SheetOk _ _
  unfold ib_impl_SheetOk
  refine w_ir ?_
  unfold gf_impl_SheetOk at h
  obtain ⟨hf31, h⟩ := gd h
  obtain ⟨q21, h37, h⟩ := bnd h
  refine go ?_; intros
  refine w_last (fun t o => ∃ q21_, q21 = .inr q21_ ∧ Pin t (ovr [(0, .ro (List.map (eFeat false) a0))] t) ∧ PinH o (ovh [] o)) ?_ ?_
  · refine w_loop2 (fun n t o => ∃ l25 k23  , gl_impl_SheetOk_1 a0 l25 k23  = some q21 ∧ n = l25.length ∧ (a0).drop k23 = l25 ∧ Pin t (ovr [(0, .ro (List.map (eFeat false) a0)), (5, .ro (List.map (eFeat false) a0)), (6, .v (.int .i64 (a0.length : Int))), (7, .v (.int .i64 (k23 : Int)))] t) ∧ PinH o (ovh [] o)) _ ⟨_, _, h37, rfl, rfl, pin, pinh⟩ ?_
    rintro n t o ⟨l25, k23, h37, rfl, hd26, pq1, pq2⟩
    refine pinned pq1 pq2 ?_
    cases l25 with
    | nil =>
      have hge28 := drop_ge hd26
      rw [gl_impl_SheetOk_1] at h37
      refine go ?_; intros
      rw [hge28]
      refine go ?_; intros
      cases h37
      exact k_cn ⟨_, rfl, pin, pinh⟩
    | cons x24 l25 =>
      have hlt27 := drop_lt hd26
      have hx29 := drop_ix hd26
      have hw30 := drop_wr hd26 hf31
      rw [gl_impl_SheetOk_1] at h37
      refine go ?_; intros
      rw [hlt27]
      refine go ?_; intros
      refine r_iro rfl rfl hx29 rfl ?_
      obtain ⟨x33, h34, h37⟩ := bnd h37
      refine go ?_; intros
      refine c_call (c := c_impl_FeatOk) (x24) H_impl_FeatOk h34 fun ch => ?_
      refine go ?_; intros
      refine s_split rfl (fun c => ?_) (fun c => ?_)
      · replace h37 := itt h37 c
        rw [c]
        refine go ?_; intros
        cases h37
        replace h : some _ = some _ := h
        cases h
        exact r_end
      replace h37 := itf h37 c
      rw [c]
      refine go ?_; intros
      refine s_split rfl (fun c => ?_) (fun c => ?_)
      · replace h37 := itt h37 c
        rw [c]
        obtain ⟨x35, h36, h37⟩ := bnd h37
        refine go ?_; intros
        refine r_iro rfl rfl h36 rfl ?_
        refine go ?_; intros
        refine w_cond rfl (fun c => ?_) (fun c => ?_)
        · replace h37 := itt h37 c
          try rw [c]
          refine go ?_; intros
          cases h37
          replace h : some _ = some _ := h
          cases h
          exact r_end
        replace h37 := itf h37 c
        try rw [c]
        refine go ?_; intros
        rw [hw30]
        exact k_ln2 _ (Nat.lt_succ_self _) ⟨_, _, h37, rfl, drop_next hd26, pin, pinh⟩
      replace h37 := itf h37 c
      rw [c]
      refine go ?_; intros
      rw [hw30]
      exact k_ln2 _ (Nat.lt_succ_self _) ⟨_, _, h37, rfl, drop_next hd26, pin, pinh⟩
  rintro t o ⟨q21, rfl, pq1, pq2⟩
  refine pinnedQ pq1 pq2 ?_
  refine go ?_; intros
  cases h
  exact r_end
theorem d_impl_Repo_commit_1 {G : Gam} (H_impl_sameCommit : Has G c_impl_sameCommit) (a0 : Commit) (a1 : Commit) (r : Bool) (h : gf_impl_Repo_commit_1 a0 a1 = some r) : Does G if_impl_Repo_commit_1 ks_impl_Repo_commit_1 (c_impl_Repo_commit_1.args (a0, a1)) [] (c_impl_Repo_commit_1.ans (a0, a1) r) := by
  refine does_pn (L := [(0, .agg [.ro (List.map eInt a0.up), .ro (List.map (eFeat false) a0.sheet), .v (.string a0.note)]), (1, .rptr [.sl false 1 (List.map eInt a1.up), .sl false 4 (List.map (eFeat false) a1.sheet), .v (.string a1.note)])]) (fun bs => pin) fun bs t o => ?_
  show vwp _ ib_impl_Repo_commit_1 _ _
  unfold ib_impl_Repo_commit_1
  refine w_ir ?_
  unfold gf_impl_Repo_commit_1 at h
  obtain ⟨x2, h3, h⟩ := bnd h
  refine go ?_; intros
  refine c_call (c := c_impl_sameCommit) (a0, a1) H_impl_sameCommit h3 fun ch => ?_
  refine go ?_; intros
  cases h
  exact r_end
theorem d_slices_IndexFunc_impl_Commit_impl_Commit__impl_Repo_commit_1 {G : Gam} (H_impl_Repo_commit_1 : Has G c_impl_Repo_commit_1) (a0 : (List Commit)) (a1 : Commit) (r : Int) (h : gf_slices_IndexFunc_impl_Commit_impl_Commit__impl_Repo_commit_1 a0 a1 = some r) : Does G if_slices_IndexFunc_impl_Commit_impl_Commit ks_slices_IndexFunc_impl_Commit_impl_Commit (c_slices_IndexFunc_impl_Commit_impl_Commit__impl_Repo_commit_1.args (a0, a1)) [] (c_slices_IndexFunc_impl_Commit_impl_Commit__impl_Repo_commit_1.ans (a0, a1) r) := by
  refine does_pn (L := [(0, .ro (List.map (eCommit false) a0)), (1, .fn 83 [.rptr [.sl false 1 (List.map eInt a1.up), .sl false 4 (List.map (eFeat false) a1.sheet), .v (.string a1.note)]])]) (fun bs => pin) fun bs t o => ?_
  show vwp _ ib_slices_IndexFunc_impl_Commit_impl_Commit _ _
  unfold ib_slices_IndexFunc_impl_Commit_impl_Commit
  refine w_ir ?_
  unfold gf_slices_IndexFunc_impl_Commit_impl_Commit__impl_Repo_commit_1 at h
  obtain ⟨hf24, h⟩ := gd h
  obtain ⟨q14, h27, h⟩ := bnd h
  refine go ?_; intros
  refine w_last (fun t o => ∃ q14_, q14 = .inr q14_ ∧ Pin t (ovr [] t) ∧ PinH o (ovh [] o)) ?_ ?_
  · refine w_loop2 (fun n t o => ∃ l18 k16  , gl_slices_IndexFunc_impl_Commit_impl_Commit__impl_Repo_commit_1_1 a1 l18 k16  = some q14 ∧ n = l18.length ∧ (a0).drop k16 = l18 ∧ Pin t (ovr [(0, .ro (List.map (eCommit false) a0)), (1, .fn 83 [.rptr [.sl false 1 (List.map eInt a1.up), .sl false 4 (List.map (eFeat false) a1.sheet), .v (.string a1.note)]]), (7, .v (.int .i64 (a0.length : Int))), (8, .v (.int .i64 (k16 : Int)))] t) ∧ PinH o (ovh [] o)) _ ⟨_, _, h27, rfl, rfl, pin, pinh⟩ ?_
    rintro n t o ⟨l18, k16, h27, rfl, hd19, pq1, pq2⟩
    refine pinned pq1 pq2 ?_
    cases l18 with
    | nil =>
      have hge21 := drop_ge hd19
      rw [gl_slices_IndexFunc_impl_Commit_impl_Commit__impl_Repo_commit_1_1] at h27
      refine go ?_; intros
      rw [hge21]
      refine go ?_; intros
      cases h27
      exact k_cn ⟨_, rfl, pin, pinh⟩
    | cons x17 l18 =>
      have hlt20 := drop_lt hd19
      have hx22 := drop_ix hd19
      have hw23 := drop_wr hd19 hf24
      rw [gl_slices_IndexFunc_impl_Commit_impl_Commit__impl_Repo_commit_1_1] at h27
      refine go ?_; intros
      rw [hlt20]
      refine go ?_; intros
      refine r_iro rfl rfl hx22 rfl ?_
      obtain ⟨x25, h26, h27⟩ := bnd h27
      refine go ?_; intros
      refine c_calld (c := c_impl_Repo_commit_1) (x17, a1) H_impl_Repo_commit_1 h26 fun ch => ?_
      refine go ?_; intros
      refine w_cond rfl (fun c => ?_) (fun c => ?_)
      · replace h27 := itt h27 c
        try rw [c]
        refine go ?_; intros
        cases h27
        replace h : some _ = some _ := h
        cases h
        exact r_end
      replace h27 := itf h27 c
      try rw [c]
      refine go ?_; intros
      rw [hw23]
      exact k_ln2 _ (Nat.lt_succ_self _) ⟨_, _, h27, rfl, drop_next hd19, pin, pinh⟩
  rintro t o ⟨q14, rfl, pq1, pq2⟩
  refine pinnedQ pq1 pq2 ?_
  refine go ?_; intros
  cases h
  exact r_end
theorem d_impl_Repo_commit {G : Gam} (H_slices_IndexFunc_impl_Commit_impl_Commit__impl_Repo_commit_1 : Has G c_slices_IndexFunc_impl_Commit_impl_Commit__impl_Repo_commit_1) (a0 : Repo) (a1 : Commit) (r : Int) (h : gf_impl_Repo_commit a0 a1 = some r) : Does G if_impl_Repo_commit ks_impl_Repo_commit (c_impl_Repo_commit.args (a0, a1)) [] (c_impl_Repo_commit.ans (a0, a1) r) := by
  refine does_pn (L := [(0, .agg [.ro (List.map (eCommit false) a0.commits), .ro (List.map eHead a0.heads)]), (1, .agg [.ro (List.map eInt a1.up), .ro (List.map (eFeat false) a1.sheet), .v (.string a1.note)])]) (fun bs => pin) fun bs t o => ?_
  show vwp _ ib_impl_Repo_commit _ _
  unfold ib_impl_Repo_commit
  refine w_ir ?_
  unfold gf_impl_Repo_commit at h
  obtain ⟨x3, h4, h⟩ := bnd h
  refine go ?_; intros
  refine c_call (c := c_slices_IndexFunc_impl_Commit_impl_Commit__impl_Repo_commit_1) (a0.commits, a1) H_slices_IndexFunc_impl_Commit_impl_Commit__impl_Repo_commit_1 h4 fun ch => ?_
  refine go ?_; intros
  cases h
  exact r_end
theorem d_slices_Contains_int_int {G : Gam} (H_slices_Index_int_int : Has G c_slices_Index_int_int) (a0 : (List Int)) (a1 : Int) (r : Bool) (h : gf_slices_Contains_int_int a0 a1 = some r) : Does G if_slices_Contains_int_int ks_slices_Contains_int_int (c_slices_Contains_int_int.args (a0, a1)) [] (c_slices_Contains_int_int.ans (a0, a1) r) := by
  refine does_pn (L := [(0, .ro (List.map eInt a0)), (1, .v (.int .i64 a1))]) (fun bs => pin) fun bs t o => ?_
  show vwp _ ib_slices_Contains_int_int _ _
  unfold ib_slices_Contains_int_int
  refine w_ir ?_
  unfold gf_slices_Contains_int_int at h
  obtain ⟨x1, h2, h⟩ := bnd h
  refine go ?_; intros
  refine c_call (c := c_slices_Index_int_int) (a0, a1) H_slices_Index_int_int h2 fun ch => ?_
  refine go ?_; intros
  cases h
  exact r_end
theorem d_impl_Repo_head_1 {G : Gam}  (a0 : Head) (a1 : Str) (r : Bool) (h : gf_impl_Repo_head_1 a0 a1 = some r) : Does G if_impl_Repo_head_1 ks_impl_Repo_head_1 (c_impl_Repo_head_1.args (a0, a1)) [] (c_impl_Repo_head_1.ans (a0, a1) r) := by
  refine does_pn (L := [(0, .agg [.v (.string a0.name), .v (.int .i64 a0.at_)]), (1, .rptr [.v (.string a1)])]) (fun bs => pin) fun bs t o => ?_
  show vwp _ ib_impl_Repo_head_1 _ _
  unfold ib_impl_Repo_head_1
  refine w_ir ?_
  unfold gf_impl_Repo_head_1 at h
  refine go ?_; intros
  cases h
  exact r_end
theorem d_slices_IndexFunc_impl_Head_impl_Head__impl_Repo_head_1 {G : Gam} (H_impl_Repo_head_1 : Has G c_impl_Repo_head_1) (a0 : (List Head)) (a1 : Str) (r : Int) (h : gf_slices_IndexFunc_impl_Head_impl_Head__impl_Repo_head_1 a0 a1 = some r) : Does G if_slices_IndexFunc_impl_Head_impl_Head ks_slices_IndexFunc_impl_Head_impl_Head (c_slices_IndexFunc_impl_Head_impl_Head__impl_Repo_head_1.args (a0, a1)) [] (c_slices_IndexFunc_impl_Head_impl_Head__impl_Repo_head_1.ans (a0, a1) r) := by
  refine does_pn (L := [(0, .ro (List.map eHead a0)), (1, .fn 77 [.rptr [.v (.string a1)]])]) (fun bs => pin) fun bs t o => ?_
  show vwp _ ib_slices_IndexFunc_impl_Head_impl_Head _ _
  unfold ib_slices_IndexFunc_impl_Head_impl_Head
  refine w_ir ?_
  unfold gf_slices_IndexFunc_impl_Head_impl_Head__impl_Repo_head_1 at h
  obtain ⟨hf24, h⟩ := gd h
  obtain ⟨q14, h27, h⟩ := bnd h
  refine go ?_; intros
  refine w_last (fun t o => ∃ q14_, q14 = .inr q14_ ∧ Pin t (ovr [] t) ∧ PinH o (ovh [] o)) ?_ ?_
  · refine w_loop2 (fun n t o => ∃ l18 k16  , gl_slices_IndexFunc_impl_Head_impl_Head__impl_Repo_head_1_1 a1 l18 k16  = some q14 ∧ n = l18.length ∧ (a0).drop k16 = l18 ∧ Pin t (ovr [(0, .ro (List.map eHead a0)), (1, .fn 77 [.rptr [.v (.string a1)]]), (7, .v (.int .i64 (a0.length : Int))), (8, .v (.int .i64 (k16 : Int)))] t) ∧ PinH o (ovh [] o)) _ ⟨_, _, h27, rfl, rfl, pin, pinh⟩ ?_
    rintro n t o ⟨l18, k16, h27, rfl, hd19, pq1, pq2⟩
    refine pinned pq1 pq2 ?_
    cases l18 with
    | nil =>
      have hge21 := drop_ge hd19
      rw [gl_slices_IndexFunc_impl_Head_impl_Head__impl_Repo_head_1_1] at h27
      refine go ?_; intros
      rw [hge21]
      refine go ?_; intros
      cases h27
      exact k_cn ⟨_, rfl, pin, pinh⟩
    | cons x17 l18 =>
      have hlt20 := drop_lt hd19
      have hx22 := drop_ix hd19
      have hw23 := drop_wr hd19 hf24
      rw [gl_slices_IndexFunc_impl_Head_impl_Head__impl_Repo_head_1_1] at h27
      refine go ?_; intros
      rw [hlt20]
      refine go ?_; intros
      refine r_iro rfl rfl hx22 rfl ?_
      obtain ⟨x25, h26, h27⟩ := bnd h27
      refine go ?_; intros
      refine c_calld (c := c_impl_Repo_head_1) (x17, a1) H_impl_Repo_head_1 h26 fun ch => ?_
      refine go ?_; intros
      refine w_cond rfl (fun c => ?_) (fun c => ?_)
      · replace h27 := itt h27 c
        try rw [c]
        refine go ?_; intros
        cases h27
        replace h : some _ = some _ := h
        cases h
        exact r_end
      replace h27 := itf h27 c
      try rw [c]
      refine go ?_; intros
      rw [hw23]
      exact k_ln2 _ (Nat.lt_succ_self _) ⟨_, _, h27, rfl, drop_next hd19, pin, pinh⟩
  rintro t o ⟨q14, rfl, pq1, pq2⟩
  refine pinnedQ pq1 pq2 ?_
  refine go ?_; intros
  cases h
  exact r_end
theorem d_impl_Repo_head {G : Gam} (H_slices_IndexFunc_impl_Head_impl_Head__impl_Repo_head_1 : Has G c_slices_IndexFunc_impl_Head_impl_Head__impl_Repo_head_1) (a0 : Repo) (a1 : Str) (r : Int) (h : gf_impl_Repo_head a0 a1 = some r) : Does G if_impl_Repo_head ks_impl_Repo_head (c_impl_Repo_head.args (a0, a1)) [] (c_impl_Repo_head.ans (a0, a1) r) := by
  refine does_pn (L := [(0, .agg [.ro (List.map (eCommit false) a0.commits), .ro (List.map eHead a0.heads)]), (1, .v (.string a1))]) (fun bs => pin) fun bs t o => ?_
  show vwp _ ib_impl_Repo_head _ _
  unfold ib_impl_Repo_head
  refine w_ir ?_
  unfold gf_impl_Repo_head at h
  obtain ⟨x3, h4, h⟩ := bnd h
  refine go ?_; intros
  refine c_call (c := c_slices_IndexFunc_impl_Head_impl_Head__impl_Repo_head_1) (a0.heads, a1) H_slices_IndexFunc_impl_Head_impl_Head__impl_Repo_head_1 h4 fun ch => ?_
  refine go ?_; intros
  cases h
  exact r_end
theorem d_impl_Repo_version {G : Gam} (H_impl_within : Has G c_impl_within) (a0 : Repo) (a1 : Int) (r : Bool) (h : gf_impl_Repo_version a0 a1 = some r) : Does G if_impl_Repo_version ks_impl_Repo_version (c_impl_Repo_version.args (a0, a1)) [] (c_impl_Repo_version.ans (a0, a1) r) := by
  refine does_pn (L := [(0, .agg [.ro (List.map (eCommit false) a0.commits), .ro (List.map eHead a0.heads)]), (1, .v (.int .i64 a1))]) (fun bs => pin) fun bs t o => ?_
  show vwp _ ib_impl_Repo_version _ _
  unfold ib_impl_Repo_version
  refine w_ir ?_
  unfold gf_impl_Repo_version at h
  obtain ⟨x2, h3, h⟩ := bnd h
  refine go ?_; intros
  refine c_call (c := c_impl_within) (a1, 0, (IntKind.i64.wrap ((a0.commits.length : Int) - 1))) H_impl_within h3 fun ch => ?_
  refine go ?_; intros
  cases h
  exact r_end
theorem d_impl_cloneShape {G : Gam}  (a0 : Shape) (r : Shape) (h : gf_impl_cloneShape a0 = some r) : Does G if_impl_cloneShape ks_impl_cloneShape (c_impl_cloneShape.args (a0)) [] (c_impl_cloneShape.ans (a0) r) := by
  refine does_pn (L := [(0, .agg [.v (.int .i64 a0.kind), .ro (List.map ePt a0.pts)])]) (fun bs => pin) fun bs t o => ?_
  show vwp _ ib_impl_cloneShape _ _
  unfold ib_impl_cloneShape
  refine w_ir ?_
  unfold gf_impl_cloneShape at h
  obtain ⟨h6, h⟩ := gd h
  refine go ?_; intros
  refine r_app (f := ePt) (xs := ([] : (List Pt))) (ys := a0.pts) rfl (src_ro (fun _ => rfl) (fun _ => rfl)) rfl rfl (by first | rfl | simp) h6 fun b4 c5 => ?_
  refine go ?_; intros
  cases h
  exact r_end
theorem d_impl_cloneFeat {G : Gam} (H_impl_cloneShape : Has G c_impl_cloneShape) (a0 : Feat) (r : Feat) (h : gf_impl_cloneFeat a0 = some r) : Does G if_impl_cloneFeat ks_impl_cloneFeat (c_impl_cloneFeat.args (a0)) [] (c_impl_cloneFeat.ans (a0) r) := by
  refine does_pn (L := [(0, .agg [.v (.string a0.id), .v (.int .i64 a0.shape.kind), .ro (List.map ePt a0.shape.pts), .ro (List.map eTag a0.tags)])]) (fun bs => pin) fun bs t o => ?_
  show vwp _ ib_impl_cloneFeat _ _
  unfold ib_impl_cloneFeat
  refine w_ir ?_
  unfold gf_impl_cloneFeat at h
  obtain ⟨x3, h4, h⟩ := bnd h
  refine go ?_; intros
  refine c_call (c := c_impl_cloneShape) (a0.shape) H_impl_cloneShape h4 fun ch => ?_
  obtain ⟨h10, h⟩ := gd h
  refine go ?_; intros
  refine r_app (f := eTag) (xs := ([] : (List Tag))) (ys := a0.tags) rfl (src_ro (fun _ => rfl) (fun _ => rfl)) rfl rfl (by first | rfl | simp) h10 fun b8 c9 => ?_
  refine go ?_; intros
  cases h
  exact r_end
theorem d_impl_cloneSheet {G : Gam} (H_impl_cloneFeat : Has G c_impl_cloneFeat) (a0 : (List Feat)) (r : (List Feat)) (h : gf_impl_cloneSheet a0 = some r) : Does G if_impl_cloneSheet ks_impl_cloneSheet (c_impl_cloneSheet.args (a0)) [] (c_impl_cloneSheet.ans (a0) r) := by
  refine does_pn (L := [(0, .ro (List.map (eFeat false) a0))]) (fun bs => pin) fun bs t o => ?_
  show vwp _ ib_impl_cloneSheet _ _
  unfold ib_impl_cloneSheet
  refine w_ir ?_
  unfold gf_impl_cloneSheet at h
  obtain ⟨hf60, h⟩ := gd h
  obtain ⟨q47, h75, h⟩ := bnd h
  refine go ?_; intros
  refine w_last (fun t o => ∃ b73 c74, Pin t (ovr [(3, .ref 48 b73 c74 0 q47.length 100)] t) ∧ PinH o (ovh [(48, ent b73 c74 100 (List.map (eFeat true) q47))] o)) ?_ ?_
  · refine w_loop2 (fun n t o => ∃ l54 k52 v49 b50 c51, gl_impl_cloneSheet_1 l54 k52 v49 = some q47 ∧ n = l54.length ∧ (a0).drop k52 = l54 ∧ Pin t (ovr [(3, .ref 48 b50 c51 0 v49.length 100), (7, .ro (List.map (eFeat false) a0)), (8, .v (.int .i64 (a0.length : Int))), (9, .v (.int .i64 (k52 : Int)))] t) ∧ PinH o (ovh [(48, ent b50 c51 100 (List.map (eFeat true) v49))] o)) _ ⟨_, _, _, _, _, h75, rfl, rfl, pin, pinh⟩ ?_
    rintro n t o ⟨l54, k52, v49, b50, c51, h75, rfl, hd55, pq1, pq2⟩
    refine pinned pq1 pq2 ?_
    cases l54 with
    | nil =>
      have hge57 := drop_ge hd55
      rw [gl_impl_cloneSheet_1] at h75
      refine go ?_; intros
      rw [hge57]
      refine go ?_; intros
      cases h75
      exact k_cn ⟨_, _, pin, pinh⟩
    | cons x53 l54 =>
      have hlt56 := drop_lt hd55
      have hx58 := drop_ix hd55
      have hw59 := drop_wr hd55 hf60
      rw [gl_impl_cloneSheet_1] at h75
      refine go ?_; intros
      rw [hlt56]
      refine go ?_; intros
      refine r_iro rfl rfl hx58 rfl ?_
      obtain ⟨x62, h63, h75⟩ := bnd h75
      refine go ?_; intros
      refine c_call (c := c_impl_cloneFeat) (x53) H_impl_cloneFeat h63 fun ch => ?_
      refine go ?_; intros
      simp only [take_map_len, take_ent]
      obtain ⟨h71, h75⟩ := gd h75
      refine go ?_; intros
      refine r_app (f := (eFeat true)) (xs := v49) (ys := ([x62] : (List Feat))) rfl (src_mv rfl rfl (by first | rfl | simp)) rfl rfl (by first | rfl | simp) h71 fun b69 c70 => ?_
      refine go ?_; intros
      rw [hw59]
      exact k_ln2 _ (Nat.lt_succ_self _) ⟨_, _, _, _, _, h75, rfl, drop_next hd55, pin, pinh⟩
  rintro t o ⟨b73, c74, pq1, pq2⟩
  refine pinnedQ pq1 pq2 ?_
  refine go ?_; intros
  cases h
  exact r_end
end Go.Proofs.AM
