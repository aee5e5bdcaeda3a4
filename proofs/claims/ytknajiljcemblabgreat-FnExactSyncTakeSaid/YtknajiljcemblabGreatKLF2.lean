/- A part of the proofs of this seat's statements (KLF2): lemmas on an abstract machine for the program's functions. Conditions: none. -/
import Derived.Test.YtknajiljcemblabGreatKLD
set_option linter.unusedVariables false
set_option linter.unusedSimpArgs false
set_option maxRecDepth 100000
set_option maxHeartbeats 4000000
namespace Go.Proofs.AM
attribute [local irreducible] vwp vstps vstpLs vstp vdo vret kseq kblk kloop kend kcut kloop2 frzV renV shutK pfzV trnV unrV
theorem d_spec_FeatOk {G : Gam} (H_spec_WordOk : Has G c_spec_WordOk) (H_spec_ShapeOk : Has G c_spec_ShapeOk) (H_spec_l2Tags : Has G c_spec_l2Tags) (a0 : Feat) (r : Bool) (h : gf_spec_FeatOk a0 = some r) : Does G if_spec_FeatOk ks_spec_FeatOk (c_spec_FeatOk.args (a0)) [] (c_spec_FeatOk.ans (a0) r) := by
  refine does_pn (L := [(0, .agg [.v (.string a0.id), .v (.int .i64 a0.shape.kind), .ro (List.map ePt a0.shape.pts), .ro (List.map eTag a0.tags)])]) (fun bs => pin) fun bs t o => ?_
  show vwp _ ib_spec_FeatOk _ _
  unfold ib_spec_FeatOk
  refine w_ir ?_
  unfold gf_spec_FeatOk at h
  obtain ⟨x2, h3, h⟩ := bnd h
  refine go ?_; intros
  refine c_call (c := c_spec_WordOk) (a0.id) H_spec_WordOk h3 fun ch => ?_
  refine go ?_; intros
  refine s_split rfl (fun c => ?_) (fun c => ?_)
  · replace h := itt h c
    rw [c]
    obtain ⟨x4, h5, h⟩ := bnd h
    refine go ?_; intros
    refine c_call (c := c_spec_ShapeOk) (a0.shape) H_spec_ShapeOk h5 fun ch => ?_
    refine go ?_; intros
    refine s_split rfl (fun c => ?_) (fun c => ?_)
    · replace h := itt h c
      rw [c]
      obtain ⟨x6, h7, h⟩ := bnd h
      refine go ?_; intros
      refine c_call (c := c_spec_l2Tags) (a0.tags) H_spec_l2Tags h7 fun ch => ?_
      refine go ?_; intros
      cases h
      exact r_end
    replace h := itf h c
    rw [c]
    refine go ?_; intros
    cases h
    exact r_end
  replace h := itf h c
  rw [c]
  refine go ?_; intros
  cases h
  exact r_end
theorem d_spec_l1Same {G : Gam}  (a0 : (List Pt)) (a1 : (List Pt)) (r : Bool) (h : gf_spec_l1Same a0 a1 = some r) : Does G if_spec_l1Same ks_spec_l1Same (c_spec_l1Same.args (a0, a1)) [] (c_spec_l1Same.ans (a0, a1) r) := by
  refine does_pn (L := [(0, .ro (List.map ePt a0)), (1, .ro (List.map ePt a1))]) (fun bs => pin) fun bs t o => ?_
  show vwp _ ib_spec_l1Same _ _
  unfold ib_spec_l1Same
  refine w_ir ?_
  unfold gf_spec_l1Same at h
  refine go ?_; intros
  refine w_cond rfl (fun c => ?_) (fun c => ?_)
  · replace h := itt h (by first | exact c | (have c2 := c; simp only [List.length_map] at c2; exact c2))
    try rw [c]
    refine go ?_; intros
    cases h
    exact r_end
  replace h := itf h (by first | exact c | (have c2 := c; simp only [List.length_map] at c2; exact c2))
  try rw [c]
  obtain ⟨hf24, h⟩ := gd h
  obtain ⟨q14, h27, h⟩ := bnd h
  refine go ?_; intros
  refine w_last (fun t o => ∃ q14_, q14 = .inr q14_ ∧ Pin t (ovr [] t) ∧ PinH o (ovh [] o)) ?_ ?_
  · refine w_loop2 (fun n t o => ∃ l18 k16  , gl_spec_l1Same_1 a1 l18 k16  = some q14 ∧ n = l18.length ∧ (a0).drop k16 = l18 ∧ Pin t (ovr [(0, .ro (List.map ePt a0)), (1, .ro (List.map ePt a1)), (5, .v (.int .i64 (k16 : Int)))] t) ∧ PinH o (ovh [] o)) _ ⟨_, _, h27, rfl, rfl, pin, pinh⟩ ?_
    rintro n t o ⟨l18, k16, h27, rfl, hd19, pq1, pq2⟩
    refine pinned pq1 pq2 ?_
    cases l18 with
    | nil =>
      have hge21 := drop_ge hd19
      rw [gl_spec_l1Same_1] at h27
      refine go ?_; intros
      rw [hge21]
      refine go ?_; intros
      cases h27
      exact k_cn ⟨_, rfl, pin, pinh⟩
    | cons x17 l18 =>
      have hlt20 := drop_lt hd19
      have hx22 := drop_ix hd19
      have hw23 := drop_wr hd19 hf24
      rw [gl_spec_l1Same_1] at h27
      refine go ?_; intros
      rw [hlt20]
      refine go ?_; intros
      refine r_iro rfl rfl hx22 rfl ?_
      obtain ⟨x25, h26, h27⟩ := bnd h27
      refine go ?_; intros
      refine r_iro rfl rfl h26 rfl ?_
      refine go ?_; intros
      refine w_cond rfl (fun c => ?_) (fun c => ?_)
      · replace h27 := itt h27 c
        try rw [c]
        refine go ?_; intros
        cases h27
        replace h : some _ = some _ := h
        cases h
        exact r_end
      replace h27 := itf h27 c
      try rw [c]
      refine go ?_; intros
      rw [hw23]
      exact k_ln2 _ (Nat.lt_succ_self _) ⟨_, _, h27, rfl, drop_next hd19, pin, pinh⟩
  rintro t o ⟨q14, rfl, pq1, pq2⟩
  refine pinnedQ pq1 pq2 ?_
  refine go ?_; intros
  cases h
  exact r_end
theorem d_spec_ShapeSame {G : Gam} (H_spec_l1Same : Has G c_spec_l1Same) (a0 : Shape) (a1 : Shape) (r : Bool) (h : gf_spec_ShapeSame a0 a1 = some r) : Does G if_spec_ShapeSame ks_spec_ShapeSame (c_spec_ShapeSame.args (a0, a1)) [] (c_spec_ShapeSame.ans (a0, a1) r) := by
  refine does_pn (L := [(0, .agg [.v (.int .i64 a0.kind), .ro (List.map ePt a0.pts)]), (1, .agg [.v (.int .i64 a1.kind), .ro (List.map ePt a1.pts)])]) (fun bs => pin) fun bs t o => ?_
  show vwp _ ib_spec_ShapeSame _ _
  unfold ib_spec_ShapeSame
  refine w_ir ?_
  unfold gf_spec_ShapeSame at h
  refine go ?_; intros
  refine s_split rfl (fun c => ?_) (fun c => ?_)
  · replace h := itt h c
    rw [c]
    obtain ⟨x3, h4, h⟩ := bnd h
    refine go ?_; intros
    refine c_call (c := c_spec_l1Same) (a0.pts, a1.pts) H_spec_l1Same h4 fun ch => ?_
    refine go ?_; intros
    cases h
    exact r_end
  replace h := itf h c
  rw [c]
  refine go ?_; intros
  cases h
  exact r_end
theorem d_spec_l2Same {G : Gam}  (a0 : (List Tag)) (a1 : (List Tag)) (r : Bool) (h : gf_spec_l2Same a0 a1 = some r) : Does G if_spec_l2Same ks_spec_l2Same (c_spec_l2Same.args (a0, a1)) [] (c_spec_l2Same.ans (a0, a1) r) := by
  refine does_pn (L := [(0, .ro (List.map eTag a0)), (1, .ro (List.map eTag a1))]) (fun bs => pin) fun bs t o => ?_
  show vwp _ ib_spec_l2Same _ _
  unfold ib_spec_l2Same
  refine w_ir ?_
  unfold gf_spec_l2Same at h
  refine go ?_; intros
  refine w_cond rfl (fun c => ?_) (fun c => ?_)
  · replace h := itt h (by first | exact c | (have c2 := c; simp only [List.length_map] at c2; exact c2))
    try rw [c]
    refine go ?_; intros
    cases h
    exact r_end
  replace h := itf h (by first | exact c | (have c2 := c; simp only [List.length_map] at c2; exact c2))
  try rw [c]
  obtain ⟨hf24, h⟩ := gd h
  obtain ⟨q14, h27, h⟩ := bnd h
  refine go ?_; intros
  refine w_last (fun t o => ∃ q14_, q14 = .inr q14_ ∧ Pin t (ovr [] t) ∧ PinH o (ovh [] o)) ?_ ?_
  · refine w_loop2 (fun n t o => ∃ l18 k16  , gl_spec_l2Same_1 a1 l18 k16  = some q14 ∧ n = l18.length ∧ (a0).drop k16 = l18 ∧ Pin t (ovr [(0, .ro (List.map eTag a0)), (1, .ro (List.map eTag a1)), (5, .v (.int .i64 (k16 : Int)))] t) ∧ PinH o (ovh [] o)) _ ⟨_, _, h27, rfl, rfl, pin, pinh⟩ ?_
    rintro n t o ⟨l18, k16, h27, rfl, hd19, pq1, pq2⟩
    refine pinned pq1 pq2 ?_
    cases l18 with
    | nil =>
      have hge21 := drop_ge hd19
      rw [gl_spec_l2Same_1] at h27
      refine go ?_; intros
      rw [hge21]
      refine go ?_; intros
      cases h27
      exact k_cn ⟨_, rfl, pin, pinh⟩
    | cons x17 l18 =>
      have hlt20 := drop_lt hd19
      have hx22 := drop_ix hd19
      have hw23 := drop_wr hd19 hf24
      rw [gl_spec_l2Same_1] at h27
      refine go ?_; intros
      rw [hlt20]
      refine go ?_; intros
      refine r_iro rfl rfl hx22 rfl ?_
      obtain ⟨x25, h26, h27⟩ := bnd h27
      refine go ?_; intros
      refine r_iro rfl rfl h26 rfl ?_
      refine go ?_; intros
      refine w_cond rfl (fun c => ?_) (fun c => ?_)
      · replace h27 := itt h27 c
        try rw [c]
        refine go ?_; intros
        cases h27
        replace h : some _ = some _ := h
        cases h
        exact r_end
      replace h27 := itf h27 c
      try rw [c]
      refine go ?_; intros
      rw [hw23]
      exact k_ln2 _ (Nat.lt_succ_self _) ⟨_, _, h27, rfl, drop_next hd19, pin, pinh⟩
  rintro t o ⟨q14, rfl, pq1, pq2⟩
  refine pinnedQ pq1 pq2 ?_
  refine go ?_; intros
  cases h
  exact r_end
theorem d_spec_FeatSame {G : Gam} (H_spec_ShapeSame : Has G c_spec_ShapeSame) (H_spec_l2Same : Has G c_spec_l2Same) (a0 : Feat) (a1 : Feat) (r : Bool) (h : gf_spec_FeatSame a0 a1 = some r) : Does G if_spec_FeatSame ks_spec_FeatSame (c_spec_FeatSame.args (a0, a1)) [] (c_spec_FeatSame.ans (a0, a1) r) := by
  refine does_pn (L := [(0, .agg [.v (.string a0.id), .v (.int .i64 a0.shape.kind), .ro (List.map ePt a0.shape.pts), .ro (List.map eTag a0.tags)]), (1, .agg [.v (.string a1.id), .v (.int .i64 a1.shape.kind), .ro (List.map ePt a1.shape.pts), .ro (List.map eTag a1.tags)])]) (fun bs => pin) fun bs t o => ?_
  show vwp _ ib_spec_FeatSame _ _
  unfold ib_spec_FeatSame
  refine w_ir ?_
  unfold gf_spec_FeatSame at h
  refine go ?_; intros
  refine s_split rfl (fun c => ?_) (fun c => ?_)
  · replace h := itt h c
    rw [c]
    obtain ⟨x3, h4, h⟩ := bnd h
    refine go ?_; intros
    refine c_call (c := c_spec_ShapeSame) (a0.shape, a1.shape) H_spec_ShapeSame h4 fun ch => ?_
    refine go ?_; intros
    refine s_split rfl (fun c => ?_) (fun c => ?_)
    · replace h := itt h c
      rw [c]
      obtain ⟨x5, h6, h⟩ := bnd h
      refine go ?_; intros
      refine c_call (c := c_spec_l2Same) (a0.tags, a1.tags) H_spec_l2Same h6 fun ch => ?_
      refine go ?_; intros
      cases h
      exact r_end
    replace h := itf h c
    rw [c]
    refine go ?_; intros
    cases h
    exact r_end
  replace h := itf h c
  rw [c]
  refine go ?_; intros
  cases h
  exact r_end
theorem d_spec_l7Ints {G : Gam}  (a0 : (List Int)) (a1 : (List Int)) (r : Bool) (h : gf_spec_l7Ints a0 a1 = some r) : Does G if_spec_l7Ints ks_spec_l7Ints (c_spec_l7Ints.args (a0, a1)) [] (c_spec_l7Ints.ans (a0, a1) r) := by
  refine does_pn (L := [(0, .ro (List.map eInt a0)), (1, .ro (List.map eInt a1))]) (fun bs => pin) fun bs t o => ?_
  show vwp _ ib_spec_l7Ints _ _
  unfold ib_spec_l7Ints
  refine w_ir ?_
  unfold gf_spec_l7Ints at h
  refine go ?_; intros
  refine w_cond rfl (fun c => ?_) (fun c => ?_)
  · replace h := itt h (by first | exact c | (have c2 := c; simp only [List.length_map] at c2; exact c2))
    try rw [c]
    refine go ?_; intros
    cases h
    exact r_end
  replace h := itf h (by first | exact c | (have c2 := c; simp only [List.length_map] at c2; exact c2))
  try rw [c]
  obtain ⟨hf24, h⟩ := gd h
  obtain ⟨q14, h27, h⟩ := bnd h
  refine go ?_; intros
  refine w_last (fun t o => ∃ q14_, q14 = .inr q14_ ∧ Pin t (ovr [] t) ∧ PinH o (ovh [] o)) ?_ ?_
  · refine w_loop2 (fun n t o => ∃ l18 k16  , gl_spec_l7Ints_1 a1 l18 k16  = some q14 ∧ n = l18.length ∧ (a0).drop k16 = l18 ∧ Pin t (ovr [(0, .ro (List.map eInt a0)), (1, .ro (List.map eInt a1)), (5, .v (.int .i64 (k16 : Int)))] t) ∧ PinH o (ovh [] o)) _ ⟨_, _, h27, rfl, rfl, pin, pinh⟩ ?_
    rintro n t o ⟨l18, k16, h27, rfl, hd19, pq1, pq2⟩
    refine pinned pq1 pq2 ?_
    cases l18 with
    | nil =>
      have hge21 := drop_ge hd19
      rw [gl_spec_l7Ints_1] at h27
      refine go ?_; intros
      rw [hge21]
      refine go ?_; intros
      cases h27
      exact k_cn ⟨_, rfl, pin, pinh⟩
    | cons x17 l18 =>
      have hlt20 := drop_lt hd19
      have hx22 := drop_ix hd19
      have hw23 := drop_wr hd19 hf24
      rw [gl_spec_l7Ints_1] at h27
      refine go ?_; intros
      rw [hlt20]
      refine go ?_; intros
      refine r_iro rfl rfl hx22 rfl ?_
      obtain ⟨x25, h26, h27⟩ := bnd h27
      refine go ?_; intros
      refine r_iro rfl rfl h26 rfl ?_
      refine go ?_; intros
      refine w_cond rfl (fun c => ?_) (fun c => ?_)
      · replace h27 := itt h27 c
        try rw [c]
        refine go ?_; intros
        cases h27
        replace h : some _ = some _ := h
        cases h
        exact r_end
      replace h27 := itf h27 c
      try rw [c]
      refine go ?_; intros
      rw [hw23]
      exact k_ln2 _ (Nat.lt_succ_self _) ⟨_, _, h27, rfl, drop_next hd19, pin, pinh⟩
  rintro t o ⟨q14, rfl, pq1, pq2⟩
  refine pinnedQ pq1 pq2 ?_
  refine go ?_; intros
  cases h
  exact r_end
theorem d_spec_SheetSame {G : Gam} (H_spec_FeatSame : Has G c_spec_FeatSame) (a0 : (List Feat)) (a1 : (List Feat)) (r : Bool) (h : gf_spec_SheetSame a0 a1 = some r) : Does G if_spec_SheetSame ks_spec_SheetSame (c_spec_SheetSame.args (a0, a1)) [] (c_spec_SheetSame.ans (a0, a1) r) := by
  refine does_pn (L := [(0, .ro (List.map (eFeat false) a0)), (1, .ro (List.map (eFeat false) a1))]) (fun bs => pin) fun bs t o => ?_
  show vwp _ ib_spec_SheetSame _ _
  unfold ib_spec_SheetSame
  refine w_ir ?_
  unfold gf_spec_SheetSame at h
  refine go ?_; intros
  refine w_cond rfl (fun c => ?_) (fun c => ?_)
  · replace h := itt h (by first | exact c | (have c2 := c; simp only [List.length_map] at c2; exact c2))
    try rw [c]
    refine go ?_; intros
    cases h
    exact r_end
  replace h := itf h (by first | exact c | (have c2 := c; simp only [List.length_map] at c2; exact c2))
  try rw [c]
  obtain ⟨hf30, h⟩ := gd h
  obtain ⟨q20, h35, h⟩ := bnd h
  refine go ?_; intros
  refine w_last (fun t o => ∃ q20_, q20 = .inr q20_ ∧ Pin t (ovr [] t) ∧ PinH o (ovh [] o)) ?_ ?_
  · refine w_loop2 (fun n t o => ∃ l24 k22  , gl_spec_SheetSame_1 a1 l24 k22  = some q20 ∧ n = l24.length ∧ (a0).drop k22 = l24 ∧ Pin t (ovr [(0, .ro (List.map (eFeat false) a0)), (1, .ro (List.map (eFeat false) a1)), (5, .v (.int .i64 (k22 : Int)))] t) ∧ PinH o (ovh [] o)) _ ⟨_, _, h35, rfl, rfl, pin, pinh⟩ ?_
    rintro n t o ⟨l24, k22, h35, rfl, hd25, pq1, pq2⟩
    refine pinned pq1 pq2 ?_
    cases l24 with
    | nil =>
      have hge27 := drop_ge hd25
      rw [gl_spec_SheetSame_1] at h35
      refine go ?_; intros
      rw [hge27]
      refine go ?_; intros
      cases h35
      exact k_cn ⟨_, rfl, pin, pinh⟩
    | cons x23 l24 =>
      have hlt26 := drop_lt hd25
      have hx28 := drop_ix hd25
      have hw29 := drop_wr hd25 hf30
      rw [gl_spec_SheetSame_1] at h35
      refine go ?_; intros
      rw [hlt26]
      refine go ?_; intros
      refine r_iro rfl rfl hx28 rfl ?_
      obtain ⟨x31, h32, h35⟩ := bnd h35
      refine go ?_; intros
      refine r_iro rfl rfl h32 rfl ?_
      obtain ⟨x33, h34, h35⟩ := bnd h35
      refine go ?_; intros
      refine c_call (c := c_spec_FeatSame) (x23, x31) H_spec_FeatSame h34 fun ch => ?_
      refine go ?_; intros
      refine w_cond rfl (fun c => ?_) (fun c => ?_)
      · replace h35 := itt h35 c
        try rw [c]
        refine go ?_; intros
        cases h35
        replace h : some _ = some _ := h
        cases h
        exact r_end
      replace h35 := itf h35 c
      try rw [c]
      refine go ?_; intros
      rw [hw29]
      exact k_ln2 _ (Nat.lt_succ_self _) ⟨_, _, h35, rfl, drop_next hd25, pin, pinh⟩
  rintro t o ⟨q20, rfl, pq1, pq2⟩
  refine pinnedQ pq1 pq2 ?_
  refine go ?_; intros
  cases h
  exact r_end
theorem d_spec_l7Same {G : Gam} (H_spec_l7Ints : Has G c_spec_l7Ints) (H_spec_SheetSame : Has G c_spec_SheetSame) (a0 : Commit) (a1 : Commit) (r : Bool) (h : gf_spec_l7Same a0 a1 = some r) : Does G if_spec_l7Same ks_spec_l7Same (c_spec_l7Same.args (a0, a1)) [] (c_spec_l7Same.ans (a0, a1) r) := by
  refine does_pn (L := [(0, .agg [.ro (List.map eInt a0.up), .ro (List.map (eFeat false) a0.sheet), .v (.string a0.note)]), (1, .agg [.ro (List.map eInt a1.up), .ro (List.map (eFeat false) a1.sheet), .v (.string a1.note)])]) (fun bs => pin) fun bs t o => ?_
  show vwp _ ib_spec_l7Same _ _
  unfold ib_spec_l7Same
  refine w_ir ?_
  unfold gf_spec_l7Same at h
  obtain ⟨x3, h4, h⟩ := bnd h
  refine go ?_; intros
  refine c_call (c := c_spec_l7Ints) (a0.up, a1.up) H_spec_l7Ints h4 fun ch => ?_
  refine go ?_; intros
  refine s_split rfl (fun c => ?_) (fun c => ?_)
  · replace h := itt h c
    rw [c]
    obtain ⟨x5, h6, h⟩ := bnd h
    refine go ?_; intros
    refine c_call (c := c_spec_SheetSame) (a0.sheet, a1.sheet) H_spec_SheetSame h6 fun ch => ?_
    refine go ?_; intros
    refine s_split rfl (fun c => ?_) (fun c => ?_)
    · replace h := itt h c
      rw [c]
      refine go ?_; intros
      cases h
      exact r_end
    replace h := itf h c
    rw [c]
    refine go ?_; intros
    cases h
    exact r_end
  replace h := itf h c
  rw [c]
  refine go ?_; intros
  cases h
  exact r_end
theorem d_spec_l7Up {G : Gam}  (a0 : (List Int)) (a1 : Int) (r : Bool) (h : gf_spec_l7Up a0 a1 = some r) : Does G if_spec_l7Up ks_spec_l7Up (c_spec_l7Up.args (a0, a1)) [] (c_spec_l7Up.ans (a0, a1) r) := by
  refine does_pn (L := [(0, .ro (List.map eInt a0)), (1, .v (.int .i64 a1))]) (fun bs => pin) fun bs t o => ?_
  show vwp _ ib_spec_l7Up _ _
  unfold ib_spec_l7Up
  refine w_ir ?_
  unfold gf_spec_l7Up at h
  obtain ⟨hf18, h⟩ := gd h
  obtain ⟨q8, h23, h⟩ := bnd h
  refine go ?_; intros
  refine w_last (fun t o => ∃ q8_, q8 = .inr q8_ ∧ Pin t (ovr [(0, .ro (List.map eInt a0)), (1, .v (.int .i64 a1))] t) ∧ PinH o (ovh [] o)) ?_ ?_
  · refine w_loop2 (fun n t o => ∃ l12 k10  , gl_spec_l7Up_1 a1 l12 k10  = some q8 ∧ n = l12.length ∧ (a0).drop k10 = l12 ∧ Pin t (ovr [(0, .ro (List.map eInt a0)), (1, .v (.int .i64 a1)), (5, .v (.int .i64 (k10 : Int)))] t) ∧ PinH o (ovh [] o)) _ ⟨_, _, h23, rfl, rfl, pin, pinh⟩ ?_
    rintro n t o ⟨l12, k10, h23, rfl, hd13, pq1, pq2⟩
    refine pinned pq1 pq2 ?_
    cases l12 with
    | nil =>
      have hge15 := drop_ge hd13
      rw [gl_spec_l7Up_1] at h23
      refine go ?_; intros
      rw [hge15]
      refine go ?_; intros
      cases h23
      exact k_cn ⟨_, rfl, pin, pinh⟩
    | cons x11 l12 =>
      have hlt14 := drop_lt hd13
      have hx16 := drop_ix hd13
      have hw17 := drop_wr hd13 hf18
      rw [gl_spec_l7Up_1] at h23
      refine go ?_; intros
      rw [hlt14]
      refine go ?_; intros
      refine r_iro rfl rfl hx16 rfl ?_
      refine go ?_; intros
      refine s_split rfl (fun c => ?_) (fun c => ?_)
      · replace h23 := itt h23 c
        rw [c]
        refine go ?_; intros
        cases h23
        replace h : some _ = some _ := h
        cases h
        exact r_end
      replace h23 := itf h23 c
      rw [c]
      refine go ?_; intros
      refine r_iro rfl rfl hx16 rfl ?_
      refine go ?_; intros
      refine w_cond rfl (fun c => ?_) (fun c => ?_)
      · replace h23 := itt h23 c
        try rw [c]
        refine go ?_; intros
        cases h23
        replace h : some _ = some _ := h
        cases h
        exact r_end
      replace h23 := itf h23 c
      try rw [c]
      refine go ?_; intros
      rw [hw17]
      exact k_ln2 _ (Nat.lt_succ_self _) ⟨_, _, h23, rfl, drop_next hd13, pin, pinh⟩
  rintro t o ⟨q8, rfl, pq1, pq2⟩
  refine pinnedQ pq1 pq2 ?_
  refine go ?_; intros
  refine s_split rfl (fun c => ?_) (fun c => ?_)
  · replace h := itt h (by first | exact c | (have c2 := c; simp only [List.length_map] at c2; exact c2))
    rw [c]
    refine go ?_; intros
    refine s_split rfl (fun c => ?_) (fun c => ?_)
    · replace h := itt h (by first | exact c | (have c2 := c; simp only [List.length_map] at c2; exact c2))
      rw [c]
      refine go ?_; intros
      refine s_split rfl (fun c => ?_) (fun c => ?_)
      · replace h := itt h (by first | exact c | (have c2 := c; simp only [List.length_map] at c2; exact c2))
        rw [c]
        refine go ?_; intros
        cases h
        exact r_end
      replace h := itf h (by first | exact c | (have c2 := c; simp only [List.length_map] at c2; exact c2))
      rw [c]
      obtain ⟨x19, h20, h⟩ := bnd h
      refine go ?_; intros
      refine r_iro rfl rfl h20 rfl ?_
      obtain ⟨x21, h22, h⟩ := bnd h
      refine go ?_; intros
      refine r_iro rfl rfl h22 rfl ?_
      refine go ?_; intros
      cases h
      exact r_end
    replace h := itf h (by first | exact c | (have c2 := c; simp only [List.length_map] at c2; exact c2))
    rw [c]
    refine go ?_; intros
    cases h
    exact r_end
  replace h := itf h (by first | exact c | (have c2 := c; simp only [List.length_map] at c2; exact c2))
  rw [c]
  refine go ?_; intros
  cases h
  exact r_end
theorem d_spec_SheetOk {G : Gam} (H_spec_FeatOk : Has G c_spec_FeatOk) (a0 : (List Feat)) (r : Bool) (h : gf_spec_SheetOk a0 = some r) : Does G if_spec_SheetOk ks_spec_SheetOk (c_spec_SheetOk.args (a0)) [] (c_spec_SheetOk.ans (a0) r) := by
  refine does_pn (L := [(0, .ro (List.map (eFeat false) a0))]) (fun bs => pin) fun bs t o => ?_
  show vwp _ ib_spec_SheetOk _ _
  unfold ib_spec_SheetOk
  refine w_ir ?_
  unfold gf_spec_SheetOk at h
  obtain ⟨hf28, h⟩ := gd h
  obtain ⟨q18, h33, h⟩ := bnd h
  refine go ?_; intros
  refine w_last (fun t o => ∃ q18_, q18 = .inr q18_ ∧ Pin t (ovr [(0, .ro (List.map (eFeat false) a0))] t) ∧ PinH o (ovh [] o)) ?_ ?_
  · refine w_loop2 (fun n t o => ∃ l22 k20  , gl_spec_SheetOk_1 a0 l22 k20  = some q18 ∧ n = l22.length ∧ (a0).drop k20 = l22 ∧ Pin t (ovr [(0, .ro (List.map (eFeat false) a0)), (3, .v (.int .i64 (k20 : Int)))] t) ∧ PinH o (ovh [] o)) _ ⟨_, _, h33, rfl, rfl, pin, pinh⟩ ?_
    rintro n t o ⟨l22, k20, h33, rfl, hd23, pq1, pq2⟩
    refine pinned pq1 pq2 ?_
    cases l22 with
    | nil =>
      have hge25 := drop_ge hd23
      rw [gl_spec_SheetOk_1] at h33
      refine go ?_; intros
      rw [hge25]
      refine go ?_; intros
      cases h33
      exact k_cn ⟨_, rfl, pin, pinh⟩
    | cons x21 l22 =>
      have hlt24 := drop_lt hd23
      have hx26 := drop_ix hd23
      have hw27 := drop_wr hd23 hf28
      rw [gl_spec_SheetOk_1] at h33
      refine go ?_; intros
      rw [hlt24]
      refine go ?_; intros
      refine r_iro rfl rfl hx26 rfl ?_
      obtain ⟨x29, h30, h33⟩ := bnd h33
      refine go ?_; intros
      refine c_call (c := c_spec_FeatOk) (x21) H_spec_FeatOk h30 fun ch => ?_
      refine go ?_; intros
      refine s_split rfl (fun c => ?_) (fun c => ?_)
      · replace h33 := itt h33 c
        rw [c]
        refine go ?_; intros
        cases h33
        replace h : some _ = some _ := h
        cases h
        exact r_end
      replace h33 := itf h33 c
      rw [c]
      refine go ?_; intros
      refine s_split rfl (fun c => ?_) (fun c => ?_)
      · replace h33 := itt h33 c
        rw [c]
        refine go ?_; intros
        refine r_iro rfl rfl hx26 rfl ?_
        obtain ⟨x31, h32, h33⟩ := bnd h33
        refine go ?_; intros
        refine r_iro rfl rfl h32 rfl ?_
        refine go ?_; intros
        refine w_cond rfl (fun c => ?_) (fun c => ?_)
        · replace h33 := itt h33 c
          try rw [c]
          refine go ?_; intros
          cases h33
          replace h : some _ = some _ := h
          cases h
          exact r_end
        replace h33 := itf h33 c
        try rw [c]
        refine go ?_; intros
        rw [hw27]
        exact k_ln2 _ (Nat.lt_succ_self _) ⟨_, _, h33, rfl, drop_next hd23, pin, pinh⟩
      replace h33 := itf h33 c
      rw [c]
      refine go ?_; intros
      rw [hw27]
      exact k_ln2 _ (Nat.lt_succ_self _) ⟨_, _, h33, rfl, drop_next hd23, pin, pinh⟩
  rintro t o ⟨q18, rfl, pq1, pq2⟩
  refine pinnedQ pq1 pq2 ?_
  refine go ?_; intros
  cases h
  exact r_end
theorem d_spec_l7Find {G : Gam} (H_spec_l7Same : Has G c_spec_l7Same) (a0 : Repo) (a1 : Commit) (r : Int) (h : gf_spec_l7Find a0 a1 = some r) : Does G if_spec_l7Find ks_spec_l7Find (c_spec_l7Find.args (a0, a1)) [] (c_spec_l7Find.ans (a0, a1) r) := by
  refine does_pn (L := [(0, .agg [.ro (List.map (eCommit false) a0.commits), .ro (List.map eHead a0.heads)]), (1, .agg [.ro (List.map eInt a1.up), .ro (List.map (eFeat false) a1.sheet), .v (.string a1.note)])]) (fun bs => pin) fun bs t o => ?_
  show vwp _ ib_spec_l7Find _ _
  unfold ib_spec_l7Find
  refine w_ir ?_
  unfold gf_spec_l7Find at h
  obtain ⟨hf32, h⟩ := gd h
  obtain ⟨q20, h35, h⟩ := bnd h
  refine go ?_; intros
  refine w_last (fun t o => ∃ q20_, q20 = .inr q20_ ∧ Pin t (ovr [] t) ∧ PinH o (ovh [] o)) ?_ ?_
  · refine w_loop2 (fun n t o => ∃ l26 k24  b22 b23, gl_spec_l7Find_1 a1 l26 k24  = some q20 ∧ n = l26.length ∧ (a0.commits).drop k24 = l26 ∧ Pin t (ovr [(2, .ptr 16 b22 210 0 0), (3, .ptr 24 b23 115 0 0), (5, .v (.int .i64 (k24 : Int)))] t) ∧ PinH o (ovh [(16, ⟨b22, 1, 210, true, [[.sl false 3 (List.map (eCommit false) a0.commits), .sl false 2 (List.map eHead a0.heads)]]⟩), (24, ⟨b23, 1, 115, true, [[.sl false 1 (List.map eInt a1.up), .sl false 4 (List.map (eFeat false) a1.sheet), .v (.string a1.note)]]⟩)] o)) _ ⟨_, _, _, _, h35, rfl, rfl, pin, pinh⟩ ?_
    rintro n t o ⟨l26, k24, b22, b23, h35, rfl, hd27, pq1, pq2⟩
    refine pinned pq1 pq2 ?_
    cases l26 with
    | nil =>
      have hge29 := drop_ge hd27
      rw [gl_spec_l7Find_1] at h35
      refine go ?_; intros
      rw [hge29]
      refine go ?_; intros
      cases h35
      exact k_cn ⟨_, rfl, pin, pinh⟩
    | cons x25 l26 =>
      have hlt28 := drop_lt hd27
      have hx30 := drop_ix hd27
      have hw31 := drop_wr hd27 hf32
      rw [gl_spec_l7Find_1] at h35
      refine go ?_; intros
      rw [hlt28]
      refine go ?_; intros
      refine r_iro rfl rfl hx30 rfl ?_
      obtain ⟨x33, h34, h35⟩ := bnd h35
      refine go ?_; intros
      refine c_call (c := c_spec_l7Same) (x25, a1) H_spec_l7Same h34 fun ch => ?_
      refine go ?_; intros
      refine w_cond rfl (fun c => ?_) (fun c => ?_)
      · replace h35 := itt h35 c
        try rw [c]
        refine go ?_; intros
        cases h35
        replace h : some _ = some _ := h
        cases h
        exact r_end
      replace h35 := itf h35 c
      try rw [c]
      refine go ?_; intros
      rw [hw31]
      exact k_ln2 _ (Nat.lt_succ_self _) ⟨_, _, _, _, h35, rfl, drop_next hd27, pin, pinh⟩
  rintro t o ⟨q20, rfl, pq1, pq2⟩
  refine pinnedQ pq1 pq2 ?_
  refine go ?_; intros
  cases h
  exact r_end
theorem d_spec_l7Head {G : Gam}  (a0 : Repo) (a1 : Str) (r : Int) (h : gf_spec_l7Head a0 a1 = some r) : Does G if_spec_l7Head ks_spec_l7Head (c_spec_l7Head.args (a0, a1)) [] (c_spec_l7Head.ans (a0, a1) r) := by
  refine does_pn (L := [(0, .agg [.ro (List.map (eCommit false) a0.commits), .ro (List.map eHead a0.heads)]), (1, .v (.string a1))]) (fun bs => pin) fun bs t o => ?_
  show vwp _ ib_spec_l7Head _ _
  unfold ib_spec_l7Head
  refine w_ir ?_
  unfold gf_spec_l7Head at h
  obtain ⟨hf22, h⟩ := gd h
  obtain ⟨q11, h23, h⟩ := bnd h
  refine go ?_; intros
  refine w_last (fun t o => ∃ q11_, q11 = .inr q11_ ∧ Pin t (ovr [] t) ∧ PinH o (ovh [] o)) ?_ ?_
  · refine w_loop2 (fun n t o => ∃ l16 k14  b13, gl_spec_l7Head_1 a1 l16 k14  = some q11 ∧ n = l16.length ∧ (a0.heads).drop k14 = l16 ∧ Pin t (ovr [(1, .v (.string a1)), (2, .ptr 16 b13 210 0 0), (5, .v (.int .i64 (k14 : Int)))] t) ∧ PinH o (ovh [(16, ⟨b13, 1, 210, true, [[.sl false 3 (List.map (eCommit false) a0.commits), .sl false 2 (List.map eHead a0.heads)]]⟩)] o)) _ ⟨_, _, _, h23, rfl, rfl, pin, pinh⟩ ?_
    rintro n t o ⟨l16, k14, b13, h23, rfl, hd17, pq1, pq2⟩
    refine pinned pq1 pq2 ?_
    cases l16 with
    | nil =>
      have hge19 := drop_ge hd17
      rw [gl_spec_l7Head_1] at h23
      refine go ?_; intros
      rw [hge19]
      refine go ?_; intros
      cases h23
      exact k_cn ⟨_, rfl, pin, pinh⟩
    | cons x15 l16 =>
      have hlt18 := drop_lt hd17
      have hx20 := drop_ix hd17
      have hw21 := drop_wr hd17 hf22
      rw [gl_spec_l7Head_1] at h23
      refine go ?_; intros
      rw [hlt18]
      refine go ?_; intros
      refine r_iro rfl rfl hx20 rfl ?_
      refine go ?_; intros
      refine w_cond rfl (fun c => ?_) (fun c => ?_)
      · replace h23 := itt h23 c
        try rw [c]
        refine go ?_; intros
        cases h23
        replace h : some _ = some _ := h
        cases h
        exact r_end
      replace h23 := itf h23 c
      try rw [c]
      refine go ?_; intros
      rw [hw21]
      exact k_ln2 _ (Nat.lt_succ_self _) ⟨_, _, _, h23, rfl, drop_next hd17, pin, pinh⟩
  rintro t o ⟨q11, rfl, pq1, pq2⟩
  refine pinnedQ pq1 pq2 ?_
  refine go ?_; intros
  cases h
  exact r_end
theorem d_spec_l1Copy {G : Gam}  (a0 : Shape) (r : Shape) (h : gf_spec_l1Copy a0 = some r) : Does G if_spec_l1Copy ks_spec_l1Copy (c_spec_l1Copy.args (a0)) [] (c_spec_l1Copy.ans (a0) r) := by
  refine does_pn (L := [(0, .agg [.v (.int .i64 a0.kind), .ro (List.map ePt a0.pts)])]) (fun bs => pin) fun bs t o => ?_
  show vwp _ ib_spec_l1Copy _ _
  unfold ib_spec_l1Copy
  refine w_ir ?_
  unfold gf_spec_l1Copy at h
  obtain ⟨h6, h⟩ := gd h
  refine go ?_; intros
  refine r_app (f := ePt) (xs := ([] : (List Pt))) (ys := a0.pts) rfl (src_ro (fun _ => rfl) (fun _ => rfl)) rfl rfl (by first | rfl | simp) h6 fun b4 c5 => ?_
  refine go ?_; intros
  cases h
  exact r_end
theorem d_spec_l2Copy {G : Gam} (H_spec_l1Copy : Has G c_spec_l1Copy) (a0 : Feat) (r : Feat) (h : gf_spec_l2Copy a0 = some r) : Does G if_spec_l2Copy ks_spec_l2Copy (c_spec_l2Copy.args (a0)) [] (c_spec_l2Copy.ans (a0) r) := by
  refine does_pn (L := [(0, .agg [.v (.string a0.id), .v (.int .i64 a0.shape.kind), .ro (List.map ePt a0.shape.pts), .ro (List.map eTag a0.tags)])]) (fun bs => pin) fun bs t o => ?_
  show vwp _ ib_spec_l2Copy _ _
  unfold ib_spec_l2Copy
  refine w_ir ?_
  unfold gf_spec_l2Copy at h
  obtain ⟨x3, h4, h⟩ := bnd h
  refine go ?_; intros
  refine c_call (c := c_spec_l1Copy) (a0.shape) H_spec_l1Copy h4 fun ch => ?_
  obtain ⟨h10, h⟩ := gd h
  refine go ?_; intros
  refine r_app (f := eTag) (xs := ([] : (List Tag))) (ys := a0.tags) rfl (src_ro (fun _ => rfl) (fun _ => rfl)) rfl rfl (by first | rfl | simp) h10 fun b8 c9 => ?_
  refine go ?_; intros
  cases h
  exact r_end
end Go.Proofs.AM
