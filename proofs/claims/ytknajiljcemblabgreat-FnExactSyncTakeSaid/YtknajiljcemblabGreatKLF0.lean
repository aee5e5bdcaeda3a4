/- A part of the proofs of this seat's statements (KLF0): lemmas on an abstract machine for the program's functions. Conditions: none. -/
import Derived.Test.YtknajiljcemblabGreatKLD
set_option linter.unusedVariables false
set_option linter.unusedSimpArgs false
set_option maxRecDepth 100000
set_option maxHeartbeats 4000000
namespace Go.Proofs.AM
attribute [local irreducible] vwp vstps vstpLs vstp vdo vret kseq kblk kloop kend kcut kloop2 frzV renV shutK pfzV trnV unrV
theorem d_laws_szPtS {G : Gam}  (a0 : (List Pt)) (a1 : Int) (r : Int) (h : gf_laws_szPtS a0 a1 = some r) : Does G if_laws_szPtS ks_laws_szPtS (c_laws_szPtS.args (a0, a1)) [] (c_laws_szPtS.ans (a0, a1) r) := by
  refine does_pn (L := [(0, .ro (List.map ePt a0)), (1, .v (.int .i64 a1))]) (fun bs => pin) fun bs t o => ?_
  show vwp _ ib_laws_szPtS _ _
  unfold ib_laws_szPtS
  refine w_ir ?_
  unfold gf_laws_szPtS at h
  refine go ?_; intros
  refine w_cond rfl (fun c => ?_) (fun c => ?_)
  · replace h := itt h (by first | exact c | (have c2 := c; simp only [List.length_map] at c2; exact c2))
    try rw [c]
    refine go ?_; intros
    cases h
    exact r_end
  replace h := itf h (by first | exact c | (have c2 := c; simp only [List.length_map] at c2; exact c2))
  try rw [c]
  refine go ?_; intros
  cases h
  exact r_end
theorem d_laws_szTag {G : Gam}  (a0 : Tag) (a1 : Int) (r : Int) (h : gf_laws_szTag a0 a1 = some r) : Does G if_laws_szTag ks_laws_szTag (c_laws_szTag.args (a0, a1)) [] (c_laws_szTag.ans (a0, a1) r) := by
  refine does_pn (L := [(0, .agg [.v (.string a0.key), .v (.string a0.val)]), (1, .v (.int .i64 a1))]) (fun bs => pin) fun bs t o => ?_
  show vwp _ ib_laws_szTag _ _
  unfold ib_laws_szTag
  refine w_ir ?_
  unfold gf_laws_szTag at h
  refine go ?_; intros
  refine w_cond rfl (fun c => ?_) (fun c => ?_)
  · replace h := itt h c
    try rw [c]
    refine go ?_; intros
    cases h
    exact r_end
  replace h := itf h c
  try rw [c]
  refine go ?_; intros
  refine w_cond rfl (fun c => ?_) (fun c => ?_)
  · replace h := itt h c
    try rw [c]
    refine go ?_; intros
    cases h
    exact r_end
  replace h := itf h c
  try rw [c]
  refine go ?_; intros
  cases h
  exact r_end
theorem d_laws_szShape {G : Gam} (H_laws_szPtS : Has G c_laws_szPtS) (a0 : Shape) (a1 : Int) (r : Int) (h : gf_laws_szShape a0 a1 = some r) : Does G if_laws_szShape ks_laws_szShape (c_laws_szShape.args (a0, a1)) [] (c_laws_szShape.ans (a0, a1) r) := by
  refine does_pn (L := [(0, .agg [.v (.int .i64 a0.kind), .ro (List.map ePt a0.pts)]), (1, .v (.int .i64 a1))]) (fun bs => pin) fun bs t o => ?_
  show vwp _ ib_laws_szShape _ _
  unfold ib_laws_szShape
  refine w_ir ?_
  unfold gf_laws_szShape at h
  obtain ⟨x2, h3, h⟩ := bnd h
  refine go ?_; intros
  refine c_call (c := c_laws_szPtS) (a0.pts, a1) H_laws_szPtS h3 fun ch => ?_
  refine go ?_; intros
  refine w_cond rfl (fun c => ?_) (fun c => ?_)
  · replace h := itt h c
    try rw [c]
    refine go ?_; intros
    cases h
    exact r_end
  replace h := itf h c
  try rw [c]
  refine go ?_; intros
  cases h
  exact r_end
theorem d_laws_szTagS {G : Gam} (H_laws_szTag : Has G c_laws_szTag) (a0 : (List Tag)) (a1 : Int) (r : Int) (h : gf_laws_szTagS a0 a1 = some r) : Does G if_laws_szTagS ks_laws_szTagS (c_laws_szTagS.args (a0, a1)) [] (c_laws_szTagS.ans (a0, a1) r) := by
  refine does_pn (L := [(0, .ro (List.map eTag a0)), (1, .v (.int .i64 a1))]) (fun bs => pin) fun bs t o => ?_
  show vwp _ ib_laws_szTagS _ _
  unfold ib_laws_szTagS
  refine w_ir ?_
  unfold gf_laws_szTagS at h
  refine go ?_; intros
  refine w_cond rfl (fun c => ?_) (fun c => ?_)
  · replace h := itt h (by first | exact c | (have c2 := c; simp only [List.length_map] at c2; exact c2))
    try rw [c]
    refine go ?_; intros
    cases h
    exact r_end
  replace h := itf h (by first | exact c | (have c2 := c; simp only [List.length_map] at c2; exact c2))
  try rw [c]
  obtain ⟨hf26, h⟩ := gd h
  obtain ⟨q15, h30, h⟩ := bnd h
  refine go ?_; intros
  refine w_last (fun t o => ∃ q15_, q15 = .inr q15_ ∧ Pin t (ovr [(1, .v (.int .i64 q15_))] t) ∧ PinH o (ovh [] o)) ?_ ?_
  · refine w_loop2 (fun n t o => ∃ l20 k18 v16 , gl_laws_szTagS_1 l20 k18 v16 = some q15 ∧ n = l20.length ∧ (a0).drop k18 = l20 ∧ Pin t (ovr [(0, .ro (List.map eTag a0)), (1, .v (.int .i64 v16)), (5, .v (.int .i64 (k18 : Int)))] t) ∧ PinH o (ovh [] o)) _ ⟨_, _, _, h30, rfl, rfl, pin, pinh⟩ ?_
    rintro n t o ⟨l20, k18, v16, h30, rfl, hd21, pq1, pq2⟩
    refine pinned pq1 pq2 ?_
    cases l20 with
    | nil =>
      have hge23 := drop_ge hd21
      rw [gl_laws_szTagS_1] at h30
      refine go ?_; intros
      rw [hge23]
      refine go ?_; intros
      cases h30
      exact k_cn ⟨_, rfl, pin, pinh⟩
    | cons x19 l20 =>
      have hlt22 := drop_lt hd21
      have hx24 := drop_ix hd21
      have hw25 := drop_wr hd21 hf26
      rw [gl_laws_szTagS_1] at h30
      refine go ?_; intros
      rw [hlt22]
      refine go ?_; intros
      refine r_iro rfl rfl hx24 rfl ?_
      obtain ⟨x27, h28, h30⟩ := bnd h30
      refine go ?_; intros
      refine c_call (c := c_laws_szTag) (x19, v16) H_laws_szTag h28 fun ch => ?_
      refine go ?_; intros
      refine w_cond rfl (fun c => ?_) (fun c => ?_)
      · replace h30 := itt h30 c
        try rw [c]
        refine go ?_; intros
        cases h30
        replace h : some _ = some _ := h
        cases h
        exact r_end
      replace h30 := itf h30 c
      try rw [c]
      refine go ?_; intros
      rw [hw25]
      exact k_ln2 _ (Nat.lt_succ_self _) ⟨_, _, _, h30, rfl, drop_next hd21, pin, pinh⟩
  rintro t o ⟨q15, rfl, pq1, pq2⟩
  refine pinnedQ pq1 pq2 ?_
  refine go ?_; intros
  cases h
  exact r_end
theorem d_laws_szFeat {G : Gam} (H_laws_szShape : Has G c_laws_szShape) (H_laws_szTagS : Has G c_laws_szTagS) (a0 : Feat) (a1 : Int) (r : Int) (h : gf_laws_szFeat a0 a1 = some r) : Does G if_laws_szFeat ks_laws_szFeat (c_laws_szFeat.args (a0, a1)) [] (c_laws_szFeat.ans (a0, a1) r) := by
  refine does_pn (L := [(0, .agg [.v (.string a0.id), .v (.int .i64 a0.shape.kind), .ro (List.map ePt a0.shape.pts), .ro (List.map eTag a0.tags)]), (1, .v (.int .i64 a1))]) (fun bs => pin) fun bs t o => ?_
  show vwp _ ib_laws_szFeat _ _
  unfold ib_laws_szFeat
  refine w_ir ?_
  unfold gf_laws_szFeat at h
  refine go ?_; intros
  refine w_cond rfl (fun c => ?_) (fun c => ?_)
  · replace h := itt h c
    try rw [c]
    refine go ?_; intros
    cases h
    exact r_end
  replace h := itf h c
  try rw [c]
  obtain ⟨x2, h3, h⟩ := bnd h
  refine go ?_; intros
  refine c_call (c := c_laws_szShape) (a0.shape, (IntKind.i64.wrap (a1 - (a0.id.size : Int)))) H_laws_szShape h3 fun ch => ?_
  refine go ?_; intros
  refine w_cond rfl (fun c => ?_) (fun c => ?_)
  · replace h := itt h c
    try rw [c]
    refine go ?_; intros
    cases h
    exact r_end
  replace h := itf h c
  try rw [c]
  obtain ⟨x4, h5, h⟩ := bnd h
  refine go ?_; intros
  refine c_call (c := c_laws_szTagS) (a0.tags, x2) H_laws_szTagS h5 fun ch => ?_
  refine go ?_; intros
  refine w_cond rfl (fun c => ?_) (fun c => ?_)
  · replace h := itt h c
    try rw [c]
    refine go ?_; intros
    cases h
    exact r_end
  replace h := itf h c
  try rw [c]
  refine go ?_; intros
  cases h
  exact r_end
theorem d_laws_szIntS {G : Gam}  (a0 : (List Int)) (a1 : Int) (r : Int) (h : gf_laws_szIntS a0 a1 = some r) : Does G if_laws_szIntS ks_laws_szIntS (c_laws_szIntS.args (a0, a1)) [] (c_laws_szIntS.ans (a0, a1) r) := by
  refine does_pn (L := [(0, .ro (List.map eInt a0)), (1, .v (.int .i64 a1))]) (fun bs => pin) fun bs t o => ?_
  show vwp _ ib_laws_szIntS _ _
  unfold ib_laws_szIntS
  refine w_ir ?_
  unfold gf_laws_szIntS at h
  refine go ?_; intros
  refine w_cond rfl (fun c => ?_) (fun c => ?_)
  · replace h := itt h (by first | exact c | (have c2 := c; simp only [List.length_map] at c2; exact c2))
    try rw [c]
    refine go ?_; intros
    cases h
    exact r_end
  replace h := itf h (by first | exact c | (have c2 := c; simp only [List.length_map] at c2; exact c2))
  try rw [c]
  refine go ?_; intros
  cases h
  exact r_end
theorem d_laws_szFeatS {G : Gam} (H_laws_szFeat : Has G c_laws_szFeat) (a0 : (List Feat)) (a1 : Int) (r : Int) (h : gf_laws_szFeatS a0 a1 = some r) : Does G if_laws_szFeatS ks_laws_szFeatS (c_laws_szFeatS.args (a0, a1)) [] (c_laws_szFeatS.ans (a0, a1) r) := by
  refine does_pn (L := [(0, .ro (List.map (eFeat false) a0)), (1, .v (.int .i64 a1))]) (fun bs => pin) fun bs t o => ?_
  show vwp _ ib_laws_szFeatS _ _
  unfold ib_laws_szFeatS
  refine w_ir ?_
  unfold gf_laws_szFeatS at h
  refine go ?_; intros
  refine w_cond rfl (fun c => ?_) (fun c => ?_)
  · replace h := itt h (by first | exact c | (have c2 := c; simp only [List.length_map] at c2; exact c2))
    try rw [c]
    refine go ?_; intros
    cases h
    exact r_end
  replace h := itf h (by first | exact c | (have c2 := c; simp only [List.length_map] at c2; exact c2))
  try rw [c]
  obtain ⟨hf26, h⟩ := gd h
  obtain ⟨q15, h30, h⟩ := bnd h
  refine go ?_; intros
  refine w_last (fun t o => ∃ q15_, q15 = .inr q15_ ∧ Pin t (ovr [(1, .v (.int .i64 q15_))] t) ∧ PinH o (ovh [] o)) ?_ ?_
  · refine w_loop2 (fun n t o => ∃ l20 k18 v16 , gl_laws_szFeatS_1 l20 k18 v16 = some q15 ∧ n = l20.length ∧ (a0).drop k18 = l20 ∧ Pin t (ovr [(0, .ro (List.map (eFeat false) a0)), (1, .v (.int .i64 v16)), (5, .v (.int .i64 (k18 : Int)))] t) ∧ PinH o (ovh [] o)) _ ⟨_, _, _, h30, rfl, rfl, pin, pinh⟩ ?_
    rintro n t o ⟨l20, k18, v16, h30, rfl, hd21, pq1, pq2⟩
    refine pinned pq1 pq2 ?_
    cases l20 with
    | nil =>
      have hge23 := drop_ge hd21
      rw [gl_laws_szFeatS_1] at h30
      refine go ?_; intros
      rw [hge23]
      refine go ?_; intros
      cases h30
      exact k_cn ⟨_, rfl, pin, pinh⟩
    | cons x19 l20 =>
      have hlt22 := drop_lt hd21
      have hx24 := drop_ix hd21
      have hw25 := drop_wr hd21 hf26
      rw [gl_laws_szFeatS_1] at h30
      refine go ?_; intros
      rw [hlt22]
      refine go ?_; intros
      refine r_iro rfl rfl hx24 rfl ?_
      obtain ⟨x27, h28, h30⟩ := bnd h30
      refine go ?_; intros
      refine c_call (c := c_laws_szFeat) (x19, v16) H_laws_szFeat h28 fun ch => ?_
      refine go ?_; intros
      refine w_cond rfl (fun c => ?_) (fun c => ?_)
      · replace h30 := itt h30 c
        try rw [c]
        refine go ?_; intros
        cases h30
        replace h : some _ = some _ := h
        cases h
        exact r_end
      replace h30 := itf h30 c
      try rw [c]
      refine go ?_; intros
      rw [hw25]
      exact k_ln2 _ (Nat.lt_succ_self _) ⟨_, _, _, h30, rfl, drop_next hd21, pin, pinh⟩
  rintro t o ⟨q15, rfl, pq1, pq2⟩
  refine pinnedQ pq1 pq2 ?_
  refine go ?_; intros
  cases h
  exact r_end
theorem d_laws_szCommit {G : Gam} (H_laws_szIntS : Has G c_laws_szIntS) (H_laws_szFeatS : Has G c_laws_szFeatS) (a0 : Commit) (a1 : Int) (r : Int) (h : gf_laws_szCommit a0 a1 = some r) : Does G if_laws_szCommit ks_laws_szCommit (c_laws_szCommit.args (a0, a1)) [] (c_laws_szCommit.ans (a0, a1) r) := by
  refine does_pn (L := [(0, .agg [.ro (List.map eInt a0.up), .ro (List.map (eFeat false) a0.sheet), .v (.string a0.note)]), (1, .v (.int .i64 a1))]) (fun bs => pin) fun bs t o => ?_
  show vwp _ ib_laws_szCommit _ _
  unfold ib_laws_szCommit
  refine w_ir ?_
  unfold gf_laws_szCommit at h
  obtain ⟨x2, h3, h⟩ := bnd h
  refine go ?_; intros
  refine c_call (c := c_laws_szIntS) (a0.up, a1) H_laws_szIntS h3 fun ch => ?_
  refine go ?_; intros
  refine w_cond rfl (fun c => ?_) (fun c => ?_)
  · replace h := itt h c
    try rw [c]
    refine go ?_; intros
    cases h
    exact r_end
  replace h := itf h c
  try rw [c]
  obtain ⟨x4, h5, h⟩ := bnd h
  refine go ?_; intros
  refine c_call (c := c_laws_szFeatS) (a0.sheet, x2) H_laws_szFeatS h5 fun ch => ?_
  refine go ?_; intros
  refine w_cond rfl (fun c => ?_) (fun c => ?_)
  · replace h := itt h c
    try rw [c]
    refine go ?_; intros
    cases h
    exact r_end
  replace h := itf h c
  try rw [c]
  refine go ?_; intros
  refine w_cond rfl (fun c => ?_) (fun c => ?_)
  · replace h := itt h c
    try rw [c]
    refine go ?_; intros
    cases h
    exact r_end
  replace h := itf h c
  try rw [c]
  refine go ?_; intros
  cases h
  exact r_end
theorem d_laws_szHead {G : Gam}  (a0 : Head) (a1 : Int) (r : Int) (h : gf_laws_szHead a0 a1 = some r) : Does G if_laws_szHead ks_laws_szHead (c_laws_szHead.args (a0, a1)) [] (c_laws_szHead.ans (a0, a1) r) := by
  refine does_pn (L := [(0, .agg [.v (.string a0.name), .v (.int .i64 a0.at_)]), (1, .v (.int .i64 a1))]) (fun bs => pin) fun bs t o => ?_
  show vwp _ ib_laws_szHead _ _
  unfold ib_laws_szHead
  refine w_ir ?_
  unfold gf_laws_szHead at h
  refine go ?_; intros
  refine w_cond rfl (fun c => ?_) (fun c => ?_)
  · replace h := itt h c
    try rw [c]
    refine go ?_; intros
    cases h
    exact r_end
  replace h := itf h c
  try rw [c]
  refine go ?_; intros
  cases h
  exact r_end
theorem d_laws_szCommitS {G : Gam} (H_laws_szCommit : Has G c_laws_szCommit) (a0 : (List Commit)) (a1 : Int) (r : Int) (h : gf_laws_szCommitS a0 a1 = some r) : Does G if_laws_szCommitS ks_laws_szCommitS (c_laws_szCommitS.args (a0, a1)) [] (c_laws_szCommitS.ans (a0, a1) r) := by
  refine does_pn (L := [(0, .ro (List.map (eCommit false) a0)), (1, .v (.int .i64 a1))]) (fun bs => pin) fun bs t o => ?_
  show vwp _ ib_laws_szCommitS _ _
  unfold ib_laws_szCommitS
  refine w_ir ?_
  unfold gf_laws_szCommitS at h
  refine go ?_; intros
  refine w_cond rfl (fun c => ?_) (fun c => ?_)
  · replace h := itt h (by first | exact c | (have c2 := c; simp only [List.length_map] at c2; exact c2))
    try rw [c]
    refine go ?_; intros
    cases h
    exact r_end
  replace h := itf h (by first | exact c | (have c2 := c; simp only [List.length_map] at c2; exact c2))
  try rw [c]
  obtain ⟨hf26, h⟩ := gd h
  obtain ⟨q15, h30, h⟩ := bnd h
  refine go ?_; intros
  refine w_last (fun t o => ∃ q15_, q15 = .inr q15_ ∧ Pin t (ovr [(1, .v (.int .i64 q15_))] t) ∧ PinH o (ovh [] o)) ?_ ?_
  · refine w_loop2 (fun n t o => ∃ l20 k18 v16 , gl_laws_szCommitS_1 l20 k18 v16 = some q15 ∧ n = l20.length ∧ (a0).drop k18 = l20 ∧ Pin t (ovr [(0, .ro (List.map (eCommit false) a0)), (1, .v (.int .i64 v16)), (5, .v (.int .i64 (k18 : Int)))] t) ∧ PinH o (ovh [] o)) _ ⟨_, _, _, h30, rfl, rfl, pin, pinh⟩ ?_
    rintro n t o ⟨l20, k18, v16, h30, rfl, hd21, pq1, pq2⟩
    refine pinned pq1 pq2 ?_
    cases l20 with
    | nil =>
      have hge23 := drop_ge hd21
      rw [gl_laws_szCommitS_1] at h30
      refine go ?_; intros
      rw [hge23]
      refine go ?_; intros
      cases h30
      exact k_cn ⟨_, rfl, pin, pinh⟩
    | cons x19 l20 =>
      have hlt22 := drop_lt hd21
      have hx24 := drop_ix hd21
      have hw25 := drop_wr hd21 hf26
      rw [gl_laws_szCommitS_1] at h30
      refine go ?_; intros
      rw [hlt22]
      refine go ?_; intros
      refine r_iro rfl rfl hx24 rfl ?_
      obtain ⟨x27, h28, h30⟩ := bnd h30
      refine go ?_; intros
      refine c_call (c := c_laws_szCommit) (x19, v16) H_laws_szCommit h28 fun ch => ?_
      refine go ?_; intros
      refine w_cond rfl (fun c => ?_) (fun c => ?_)
      · replace h30 := itt h30 c
        try rw [c]
        refine go ?_; intros
        cases h30
        replace h : some _ = some _ := h
        cases h
        exact r_end
      replace h30 := itf h30 c
      try rw [c]
      refine go ?_; intros
      rw [hw25]
      exact k_ln2 _ (Nat.lt_succ_self _) ⟨_, _, _, h30, rfl, drop_next hd21, pin, pinh⟩
  rintro t o ⟨q15, rfl, pq1, pq2⟩
  refine pinnedQ pq1 pq2 ?_
  refine go ?_; intros
  cases h
  exact r_end
theorem d_laws_szHeadS {G : Gam} (H_laws_szHead : Has G c_laws_szHead) (a0 : (List Head)) (a1 : Int) (r : Int) (h : gf_laws_szHeadS a0 a1 = some r) : Does G if_laws_szHeadS ks_laws_szHeadS (c_laws_szHeadS.args (a0, a1)) [] (c_laws_szHeadS.ans (a0, a1) r) := by
  refine does_pn (L := [(0, .ro (List.map eHead a0)), (1, .v (.int .i64 a1))]) (fun bs => pin) fun bs t o => ?_
  show vwp _ ib_laws_szHeadS _ _
  unfold ib_laws_szHeadS
  refine w_ir ?_
  unfold gf_laws_szHeadS at h
  refine go ?_; intros
  refine w_cond rfl (fun c => ?_) (fun c => ?_)
  · replace h := itt h (by first | exact c | (have c2 := c; simp only [List.length_map] at c2; exact c2))
    try rw [c]
    refine go ?_; intros
    cases h
    exact r_end
  replace h := itf h (by first | exact c | (have c2 := c; simp only [List.length_map] at c2; exact c2))
  try rw [c]
  obtain ⟨hf26, h⟩ := gd h
  obtain ⟨q15, h30, h⟩ := bnd h
  refine go ?_; intros
  refine w_last (fun t o => ∃ q15_, q15 = .inr q15_ ∧ Pin t (ovr [(1, .v (.int .i64 q15_))] t) ∧ PinH o (ovh [] o)) ?_ ?_
  · refine w_loop2 (fun n t o => ∃ l20 k18 v16 , gl_laws_szHeadS_1 l20 k18 v16 = some q15 ∧ n = l20.length ∧ (a0).drop k18 = l20 ∧ Pin t (ovr [(0, .ro (List.map eHead a0)), (1, .v (.int .i64 v16)), (5, .v (.int .i64 (k18 : Int)))] t) ∧ PinH o (ovh [] o)) _ ⟨_, _, _, h30, rfl, rfl, pin, pinh⟩ ?_
    rintro n t o ⟨l20, k18, v16, h30, rfl, hd21, pq1, pq2⟩
    refine pinned pq1 pq2 ?_
    cases l20 with
    | nil =>
      have hge23 := drop_ge hd21
      rw [gl_laws_szHeadS_1] at h30
      refine go ?_; intros
      rw [hge23]
      refine go ?_; intros
      cases h30
      exact k_cn ⟨_, rfl, pin, pinh⟩
    | cons x19 l20 =>
      have hlt22 := drop_lt hd21
      have hx24 := drop_ix hd21
      have hw25 := drop_wr hd21 hf26
      rw [gl_laws_szHeadS_1] at h30
      refine go ?_; intros
      rw [hlt22]
      refine go ?_; intros
      refine r_iro rfl rfl hx24 rfl ?_
      obtain ⟨x27, h28, h30⟩ := bnd h30
      refine go ?_; intros
      refine c_call (c := c_laws_szHead) (x19, v16) H_laws_szHead h28 fun ch => ?_
      refine go ?_; intros
      refine w_cond rfl (fun c => ?_) (fun c => ?_)
      · replace h30 := itt h30 c
        try rw [c]
        refine go ?_; intros
        cases h30
        replace h : some _ = some _ := h
        cases h
        exact r_end
      replace h30 := itf h30 c
      try rw [c]
      refine go ?_; intros
      rw [hw25]
      exact k_ln2 _ (Nat.lt_succ_self _) ⟨_, _, _, h30, rfl, drop_next hd21, pin, pinh⟩
  rintro t o ⟨q15, rfl, pq1, pq2⟩
  refine pinnedQ pq1 pq2 ?_
  refine go ?_; intros
  cases h
  exact r_end
theorem d_spec_l1Num {G : Gam}  (a0 : Int) (r : Bool) (h : gf_spec_l1Num a0 = some r) : Does G if_spec_l1Num ks_spec_l1Num (c_spec_l1Num.args (a0)) [] (c_spec_l1Num.ans (a0) r) := by
  refine does_pn (L := [(0, .v (.int .i64 a0))]) (fun bs => pin) fun bs t o => ?_
  show vwp _ ib_spec_l1Num _ _
  unfold ib_spec_l1Num
  refine w_ir ?_
  unfold gf_spec_l1Num at h
  refine go ?_; intros
  refine s_split rfl (fun c => ?_) (fun c => ?_)
  · replace h := itt h c
    rw [c]
    refine go ?_; intros
    cases h
    exact r_end
  replace h := itf h c
  rw [c]
  refine go ?_; intros
  cases h
  exact r_end
theorem d_spec_l1Pts {G : Gam} (H_spec_l1Num : Has G c_spec_l1Num) (a0 : (List Pt)) (r : Bool) (h : gf_spec_l1Pts a0 = some r) : Does G if_spec_l1Pts ks_spec_l1Pts (c_spec_l1Pts.args (a0)) [] (c_spec_l1Pts.ans (a0) r) := by
  refine does_pn (L := [(0, .ro (List.map ePt a0))]) (fun bs => pin) fun bs t o => ?_
  show vwp _ ib_spec_l1Pts _ _
  unfold ib_spec_l1Pts
  refine w_ir ?_
  unfold gf_spec_l1Pts at h
  obtain ⟨hf34, h⟩ := gd h
  obtain ⟨q24, h41, h⟩ := bnd h
  refine go ?_; intros
  refine w_last (fun t o => ∃ q24_, q24 = .inr q24_ ∧ Pin t (ovr [(0, .ro (List.map ePt a0))] t) ∧ PinH o (ovh [] o)) ?_ ?_
  · refine w_loop2 (fun n t o => ∃ l28 k26  , gl_spec_l1Pts_1 a0 l28 k26  = some q24 ∧ n = l28.length ∧ (a0).drop k26 = l28 ∧ Pin t (ovr [(0, .ro (List.map ePt a0)), (3, .v (.int .i64 (k26 : Int)))] t) ∧ PinH o (ovh [] o)) _ ⟨_, _, h41, rfl, rfl, pin, pinh⟩ ?_
    rintro n t o ⟨l28, k26, h41, rfl, hd29, pq1, pq2⟩
    refine pinned pq1 pq2 ?_
    cases l28 with
    | nil =>
      have hge31 := drop_ge hd29
      rw [gl_spec_l1Pts_1] at h41
      refine go ?_; intros
      rw [hge31]
      refine go ?_; intros
      cases h41
      exact k_cn ⟨_, rfl, pin, pinh⟩
    | cons x27 l28 =>
      have hlt30 := drop_lt hd29
      have hx32 := drop_ix hd29
      have hw33 := drop_wr hd29 hf34
      rw [gl_spec_l1Pts_1] at h41
      refine go ?_; intros
      rw [hlt30]
      refine go ?_; intros
      refine r_iro rfl rfl hx32 rfl ?_
      obtain ⟨x35, h36, h41⟩ := bnd h41
      refine go ?_; intros
      refine c_call (c := c_spec_l1Num) (x27.x) H_spec_l1Num h36 fun ch => ?_
      refine go ?_; intros
      refine s_split rfl (fun c => ?_) (fun c => ?_)
      · replace h41 := itt h41 c
        rw [c]
        refine go ?_; intros
        cases h41
        replace h : some _ = some _ := h
        cases h
        exact r_end
      replace h41 := itf h41 c
      rw [c]
      refine go ?_; intros
      refine r_iro rfl rfl hx32 rfl ?_
      obtain ⟨x37, h38, h41⟩ := bnd h41
      refine go ?_; intros
      refine c_call (c := c_spec_l1Num) (x27.y) H_spec_l1Num h38 fun ch => ?_
      refine go ?_; intros
      refine s_split rfl (fun c => ?_) (fun c => ?_)
      · replace h41 := itt h41 c
        rw [c]
        refine go ?_; intros
        cases h41
        replace h : some _ = some _ := h
        cases h
        exact r_end
      replace h41 := itf h41 c
      rw [c]
      refine go ?_; intros
      refine s_split rfl (fun c => ?_) (fun c => ?_)
      · replace h41 := itt h41 c
        rw [c]
        refine go ?_; intros
        refine r_iro rfl rfl hx32 rfl ?_
        obtain ⟨x39, h40, h41⟩ := bnd h41
        refine go ?_; intros
        refine r_iro rfl rfl h40 rfl ?_
        refine go ?_; intros
        refine w_cond rfl (fun c => ?_) (fun c => ?_)
        · replace h41 := itt h41 c
          try rw [c]
          refine go ?_; intros
          cases h41
          replace h : some _ = some _ := h
          cases h
          exact r_end
        replace h41 := itf h41 c
        try rw [c]
        refine go ?_; intros
        rw [hw33]
        exact k_ln2 _ (Nat.lt_succ_self _) ⟨_, _, h41, rfl, drop_next hd29, pin, pinh⟩
      replace h41 := itf h41 c
      rw [c]
      refine go ?_; intros
      rw [hw33]
      exact k_ln2 _ (Nat.lt_succ_self _) ⟨_, _, h41, rfl, drop_next hd29, pin, pinh⟩
  rintro t o ⟨q24, rfl, pq1, pq2⟩
  refine pinnedQ pq1 pq2 ?_
  refine go ?_; intros
  cases h
  exact r_end
theorem d_spec_WordOk {G : Gam}  (a0 : Str) (r : Bool) (h : gf_spec_WordOk a0 = some r) : Does G if_spec_WordOk ks_spec_WordOk (c_spec_WordOk.args (a0)) [] (c_spec_WordOk.ans (a0) r) := by
  refine does_pn (L := [(0, .v (.string a0))]) (fun bs => pin) fun bs t o => ?_
  show vwp _ ib_spec_WordOk _ _
  unfold ib_spec_WordOk
  refine w_ir ?_
  unfold gf_spec_WordOk at h
  obtain ⟨hf18, h⟩ := gd h
  obtain ⟨q8, h19, h⟩ := bnd h
  refine go ?_; intros
  refine w_last (fun t o => ∃ q8_, q8 = .inr q8_ ∧ Pin t (ovr [(0, .v (.string a0))] t) ∧ PinH o (ovh [] o)) ?_ ?_
  · refine w_loop2 (fun n t o => ∃ l12 k10  , gl_spec_WordOk_1 l12 k10  = some q8 ∧ n = l12.length ∧ (a0.data.toList).drop k10 = l12 ∧ Pin t (ovr [(0, .v (.string a0)), (3, .v (.int .i64 (k10 : Int)))] t) ∧ PinH o (ovh [] o)) _ ⟨_, _, h19, rfl, rfl, pin, pinh⟩ ?_
    rintro n t o ⟨l12, k10, h19, rfl, hd13, pq1, pq2⟩
    refine pinned pq1 pq2 ?_
    cases l12 with
    | nil =>
      have hge15 := drop_geB hd13
      rw [gl_spec_WordOk_1] at h19
      refine go ?_; intros
      rw [hge15]
      refine go ?_; intros
      cases h19
      exact k_cn ⟨_, rfl, pin, pinh⟩
    | cons x11 l12 =>
      have hlt14 := drop_ltB hd13
      have hx16 := drop_ixB hd13
      have hw17 := drop_wrB hd13 hf18
      rw [gl_spec_WordOk_1] at h19
      refine go ?_; intros
      rw [hlt14]
      refine go ?_; intros
      refine r_sidx rfl rfl hx16 ?_
      refine go ?_; intros
      refine s_split rfl (fun c => ?_) (fun c => ?_)
      · replace h19 := itt h19 c
        rw [c]
        refine go ?_; intros
        cases h19
        replace h : some _ = some _ := h
        cases h
        exact r_end
      replace h19 := itf h19 c
      rw [c]
      refine go ?_; intros
      refine r_sidx rfl rfl hx16 ?_
      refine go ?_; intros
      refine w_cond rfl (fun c => ?_) (fun c => ?_)
      · replace h19 := itt h19 c
        try rw [c]
        refine go ?_; intros
        cases h19
        replace h : some _ = some _ := h
        cases h
        exact r_end
      replace h19 := itf h19 c
      try rw [c]
      refine go ?_; intros
      rw [hw17]
      exact k_ln2 _ (Nat.lt_succ_self _) ⟨_, _, h19, rfl, drop_next hd13, pin, pinh⟩
  rintro t o ⟨q8, rfl, pq1, pq2⟩
  refine pinnedQ pq1 pq2 ?_
  refine go ?_; intros
  refine s_split rfl (fun c => ?_) (fun c => ?_)
  · replace h := itt h c
    rw [c]
    refine go ?_; intros
    cases h
    exact r_end
  replace h := itf h c
  rw [c]
  refine go ?_; intros
  cases h
  exact r_end
theorem d_spec_ShapeOk {G : Gam} (H_spec_l1Pts : Has G c_spec_l1Pts) (a0 : Shape) (r : Bool) (h : gf_spec_ShapeOk a0 = some r) : Does G if_spec_ShapeOk ks_spec_ShapeOk (c_spec_ShapeOk.args (a0)) [] (c_spec_ShapeOk.ans (a0) r) := by
  refine does_pn (L := [(0, .agg [.v (.int .i64 a0.kind), .ro (List.map ePt a0.pts)])]) (fun bs => pin) fun bs t o => ?_
  show vwp _ ib_spec_ShapeOk _ _
  unfold ib_spec_ShapeOk
  refine w_ir ?_
  unfold gf_spec_ShapeOk at h
  obtain ⟨x2, h3, h⟩ := bnd h
  refine go ?_; intros
  refine c_call (c := c_spec_l1Pts) (a0.pts) H_spec_l1Pts h3 fun ch => ?_
  refine go ?_; intros
  refine w_cond rfl (fun c => ?_) (fun c => ?_)
  · replace h := itt h c
    try rw [c]
    refine go ?_; intros
    cases h
    exact r_end
  replace h := itf h c
  try rw [c]
  refine go ?_; intros
  refine w_cond rfl (fun c => ?_) (fun c => ?_)
  · replace h := itt h c
    try rw [c]
    refine go ?_; intros
    cases h
    exact r_end
  replace h := itf h c
  try rw [c]
  refine go ?_; intros
  refine w_cond rfl (fun c => ?_) (fun c => ?_)
  · replace h := itt h c
    try rw [c]
    refine go ?_; intros
    cases h
    exact r_end
  replace h := itf h c
  try rw [c]
  refine go ?_; intros
  refine w_cond rfl (fun c => ?_) (fun c => ?_)
  · replace h := itt h c
    try rw [c]
    refine go ?_; intros
    refine s_split rfl (fun c => ?_) (fun c => ?_)
    · replace h := itt h (by first | exact c | (have c2 := c; simp only [List.length_map] at c2; exact c2))
      rw [c]
      obtain ⟨x4, h5, h⟩ := bnd h
      refine go ?_; intros
      refine r_iro rfl rfl h5 rfl ?_
      obtain ⟨x6, h7, h⟩ := bnd h
      refine go ?_; intros
      refine r_iro rfl rfl h7 rfl ?_
      refine go ?_; intros
      cases h
      exact r_end
    replace h := itf h (by first | exact c | (have c2 := c; simp only [List.length_map] at c2; exact c2))
    rw [c]
    refine go ?_; intros
    cases h
    exact r_end
  replace h := itf h c
  try rw [c]
  refine go ?_; intros
  cases h
  exact r_end
theorem d_spec_l2Tags {G : Gam} (H_spec_WordOk : Has G c_spec_WordOk) (a0 : (List Tag)) (r : Bool) (h : gf_spec_l2Tags a0 = some r) : Does G if_spec_l2Tags ks_spec_l2Tags (c_spec_l2Tags.args (a0)) [] (c_spec_l2Tags.ans (a0) r) := by
  refine does_pn (L := [(0, .ro (List.map eTag a0))]) (fun bs => pin) fun bs t o => ?_
  show vwp _ ib_spec_l2Tags _ _
  unfold ib_spec_l2Tags
  refine w_ir ?_
  unfold gf_spec_l2Tags at h
  obtain ⟨hf34, h⟩ := gd h
  obtain ⟨q24, h41, h⟩ := bnd h
  refine go ?_; intros
  refine w_last (fun t o => ∃ q24_, q24 = .inr q24_ ∧ Pin t (ovr [(0, .ro (List.map eTag a0))] t) ∧ PinH o (ovh [] o)) ?_ ?_
  · refine w_loop2 (fun n t o => ∃ l28 k26  , gl_spec_l2Tags_1 a0 l28 k26  = some q24 ∧ n = l28.length ∧ (a0).drop k26 = l28 ∧ Pin t (ovr [(0, .ro (List.map eTag a0)), (3, .v (.int .i64 (k26 : Int)))] t) ∧ PinH o (ovh [] o)) _ ⟨_, _, h41, rfl, rfl, pin, pinh⟩ ?_
    rintro n t o ⟨l28, k26, h41, rfl, hd29, pq1, pq2⟩
    refine pinned pq1 pq2 ?_
    cases l28 with
    | nil =>
      have hge31 := drop_ge hd29
      rw [gl_spec_l2Tags_1] at h41
      refine go ?_; intros
      rw [hge31]
      refine go ?_; intros
      cases h41
      exact k_cn ⟨_, rfl, pin, pinh⟩
    | cons x27 l28 =>
      have hlt30 := drop_lt hd29
      have hx32 := drop_ix hd29
      have hw33 := drop_wr hd29 hf34
      rw [gl_spec_l2Tags_1] at h41
      refine go ?_; intros
      rw [hlt30]
      refine go ?_; intros
      refine r_iro rfl rfl hx32 rfl ?_
      obtain ⟨x35, h36, h41⟩ := bnd h41
      refine go ?_; intros
      refine c_call (c := c_spec_WordOk) (x27.key) H_spec_WordOk h36 fun ch => ?_
      refine go ?_; intros
      refine s_split rfl (fun c => ?_) (fun c => ?_)
      · replace h41 := itt h41 c
        rw [c]
        refine go ?_; intros
        cases h41
        replace h : some _ = some _ := h
        cases h
        exact r_end
      replace h41 := itf h41 c
      rw [c]
      refine go ?_; intros
      refine r_iro rfl rfl hx32 rfl ?_
      obtain ⟨x37, h38, h41⟩ := bnd h41
      refine go ?_; intros
      refine c_call (c := c_spec_WordOk) (x27.val) H_spec_WordOk h38 fun ch => ?_
      refine go ?_; intros
      refine s_split rfl (fun c => ?_) (fun c => ?_)
      · replace h41 := itt h41 c
        rw [c]
        refine go ?_; intros
        cases h41
        replace h : some _ = some _ := h
        cases h
        exact r_end
      replace h41 := itf h41 c
      rw [c]
      refine go ?_; intros
      refine s_split rfl (fun c => ?_) (fun c => ?_)
      · replace h41 := itt h41 c
        rw [c]
        refine go ?_; intros
        refine r_iro rfl rfl hx32 rfl ?_
        obtain ⟨x39, h40, h41⟩ := bnd h41
        refine go ?_; intros
        refine r_iro rfl rfl h40 rfl ?_
        refine go ?_; intros
        refine w_cond rfl (fun c => ?_) (fun c => ?_)
        · replace h41 := itt h41 c
          try rw [c]
          refine go ?_; intros
          cases h41
          replace h : some _ = some _ := h
          cases h
          exact r_end
        replace h41 := itf h41 c
        try rw [c]
        refine go ?_; intros
        rw [hw33]
        exact k_ln2 _ (Nat.lt_succ_self _) ⟨_, _, h41, rfl, drop_next hd29, pin, pinh⟩
      replace h41 := itf h41 c
      rw [c]
      refine go ?_; intros
      rw [hw33]
      exact k_ln2 _ (Nat.lt_succ_self _) ⟨_, _, h41, rfl, drop_next hd29, pin, pinh⟩
  rintro t o ⟨q24, rfl, pq1, pq2⟩
  refine pinnedQ pq1 pq2 ?_
  refine go ?_; intros
  cases h
  exact r_end
end Go.Proofs.AM
