/- A part of the proofs of this seat's statements (KDF0): lemmas on an abstract machine for the program's functions. Conditions: none. -/
import Derived.Test.YtbildbphkmdemaaKDD
set_option linter.unusedVariables false
set_option linter.unusedSimpArgs false
set_option maxRecDepth 100000
set_option maxHeartbeats 4000000
namespace Go.Proofs.AM
attribute [local irreducible] vwp vstps vstpLs vstp vdo vret kseq kblk kloop kend kcut kloop2 frzV renV shutK pfzV trnV unrV
theorem d_spec_l1Num {G : Gam}  (a0 : Int) (r : Bool) (h : gf_spec_l1Num a0 = some r) : Does G if_spec_l1Num ks_spec_l1Num (c_spec_l1Num.args (a0)) [] (c_spec_l1Num.ans (a0) r) := by
  refine does_pn (L := [(0, .v (.int .i64 a0))]) (fun bs => pin) fun bs t o => ?_
  show vwp _ ib_spec_l1Num _ _
  unfold ib_spec_l1Num
  refine w_ir ?_
  unfold gf_spec_l1Num at h
  refine go ?_; intros
  refine s_split rfl (fun c => ?_) (fun c => ?_)
  · replace h := itt h c
    rw [c]
    refine go ?_; intros
    cases h
    exact r_end
  replace h := itf h c
  rw [c]
  refine go ?_; intros
  cases h
  exact r_end
theorem d_spec_l1Pts {G : Gam} (H_spec_l1Num : Has G c_spec_l1Num) (a0 : (List Pt)) (r : Bool) (h : gf_spec_l1Pts a0 = some r) : Does G if_spec_l1Pts ks_spec_l1Pts (c_spec_l1Pts.args (a0)) [] (c_spec_l1Pts.ans (a0) r) := by
  refine does_pn (L := [(0, .ro (List.map ePt a0))]) (fun bs => pin) fun bs t o => ?_
  show vwp _ ib_spec_l1Pts _ _
  unfold ib_spec_l1Pts
  refine w_ir ?_
  unfold gf_spec_l1Pts at h
  obtain ⟨hf34, h⟩ := gd h
  obtain ⟨q24, h41, h⟩ := bnd h
  refine go ?_; intros
  refine w_last (fun t o => ∃ q24_, q24 = .inr q24_ ∧ Pin t (ovr [(0, .ro (List.map ePt a0))] t) ∧ PinH o (ovh [] o)) ?_ ?_
  · refine w_loop2 (fun n t o => ∃ l28 k26  , gl_spec_l1Pts_1 a0 l28 k26  = some q24 ∧ n = l28.length ∧ (a0).drop k26 = l28 ∧ Pin t (ovr [(0, .ro (List.map ePt a0)), (3, .v (.int .i64 (k26 : Int)))] t) ∧ PinH o (ovh [] o)) _ ⟨_, _, h41, rfl, rfl, pin, pinh⟩ ?_
    rintro n t o ⟨l28, k26, h41, rfl, hd29, pq1, pq2⟩
    refine pinned pq1 pq2 ?_
    cases l28 with
    | nil =>
      have hge31 := drop_ge hd29
      rw [gl_spec_l1Pts_1] at h41
      refine go ?_; intros
      rw [hge31]
      refine go ?_; intros
      cases h41
      exact k_cn ⟨_, rfl, pin, pinh⟩
    | cons x27 l28 =>
      have hlt30 := drop_lt hd29
      have hx32 := drop_ix hd29
      have hw33 := drop_wr hd29 hf34
      rw [gl_spec_l1Pts_1] at h41
      refine go ?_; intros
      rw [hlt30]
      refine go ?_; intros
      refine r_iro rfl rfl hx32 rfl ?_
      obtain ⟨x35, h36, h41⟩ := bnd h41
      refine go ?_; intros
      refine c_call (c := c_spec_l1Num) (x27.x) H_spec_l1Num h36 fun ch => ?_
      refine go ?_; intros
      refine s_split rfl (fun c => ?_) (fun c => ?_)
      · replace h41 := itt h41 c
        rw [c]
        refine go ?_; intros
        cases h41
        replace h : some _ = some _ := h
        cases h
        exact r_end
      replace h41 := itf h41 c
      rw [c]
      refine go ?_; intros
      refine r_iro rfl rfl hx32 rfl ?_
      obtain ⟨x37, h38, h41⟩ := bnd h41
      refine go ?_; intros
      refine c_call (c := c_spec_l1Num) (x27.y) H_spec_l1Num h38 fun ch => ?_
      refine go ?_; intros
      refine s_split rfl (fun c => ?_) (fun c => ?_)
      · replace h41 := itt h41 c
        rw [c]
        refine go ?_; intros
        cases h41
        replace h : some _ = some _ := h
        cases h
        exact r_end
      replace h41 := itf h41 c
      rw [c]
      refine go ?_; intros
      refine s_split rfl (fun c => ?_) (fun c => ?_)
      · replace h41 := itt h41 c
        rw [c]
        refine go ?_; intros
        refine r_iro rfl rfl hx32 rfl ?_
        obtain ⟨x39, h40, h41⟩ := bnd h41
        refine go ?_; intros
        refine r_iro rfl rfl h40 rfl ?_
        refine go ?_; intros
        refine w_cond rfl (fun c => ?_) (fun c => ?_)
        · replace h41 := itt h41 c
          try rw [c]
          refine go ?_; intros
          cases h41
          replace h : some _ = some _ := h
          cases h
          exact r_end
        replace h41 := itf h41 c
        try rw [c]
        refine go ?_; intros
        rw [hw33]
        exact k_ln2 _ (Nat.lt_succ_self _) ⟨_, _, h41, rfl, drop_next hd29, pin, pinh⟩
      replace h41 := itf h41 c
      rw [c]
      refine go ?_; intros
      rw [hw33]
      exact k_ln2 _ (Nat.lt_succ_self _) ⟨_, _, h41, rfl, drop_next hd29, pin, pinh⟩
  rintro t o ⟨q24, rfl, pq1, pq2⟩
  refine pinnedQ pq1 pq2 ?_
  refine go ?_; intros
  cases h
  exact r_end
theorem d_spec_WordOk {G : Gam}  (a0 : Str) (r : Bool) (h : gf_spec_WordOk a0 = some r) : Does G if_spec_WordOk ks_spec_WordOk (c_spec_WordOk.args (a0)) [] (c_spec_WordOk.ans (a0) r) := by
  refine does_pn (L := [(0, .v (.string a0))]) (fun bs => pin) fun bs t o => ?_
  show vwp _ ib_spec_WordOk _ _
  unfold ib_spec_WordOk
  refine w_ir ?_
  unfold gf_spec_WordOk at h
  obtain ⟨hf18, h⟩ := gd h
  obtain ⟨q8, h19, h⟩ := bnd h
  refine go ?_; intros
  refine w_last (fun t o => ∃ q8_, q8 = .inr q8_ ∧ Pin t (ovr [(0, .v (.string a0))] t) ∧ PinH o (ovh [] o)) ?_ ?_
  · refine w_loop2 (fun n t o => ∃ l12 k10  , gl_spec_WordOk_1 l12 k10  = some q8 ∧ n = l12.length ∧ (a0.data.toList).drop k10 = l12 ∧ Pin t (ovr [(0, .v (.string a0)), (3, .v (.int .i64 (k10 : Int)))] t) ∧ PinH o (ovh [] o)) _ ⟨_, _, h19, rfl, rfl, pin, pinh⟩ ?_
    rintro n t o ⟨l12, k10, h19, rfl, hd13, pq1, pq2⟩
    refine pinned pq1 pq2 ?_
    cases l12 with
    | nil =>
      have hge15 := drop_geB hd13
      rw [gl_spec_WordOk_1] at h19
      refine go ?_; intros
      rw [hge15]
      refine go ?_; intros
      cases h19
      exact k_cn ⟨_, rfl, pin, pinh⟩
    | cons x11 l12 =>
      have hlt14 := drop_ltB hd13
      have hx16 := drop_ixB hd13
      have hw17 := drop_wrB hd13 hf18
      rw [gl_spec_WordOk_1] at h19
      refine go ?_; intros
      rw [hlt14]
      refine go ?_; intros
      refine r_sidx rfl rfl hx16 ?_
      refine go ?_; intros
      refine s_split rfl (fun c => ?_) (fun c => ?_)
      · replace h19 := itt h19 c
        rw [c]
        refine go ?_; intros
        cases h19
        replace h : some _ = some _ := h
        cases h
        exact r_end
      replace h19 := itf h19 c
      rw [c]
      refine go ?_; intros
      refine r_sidx rfl rfl hx16 ?_
      refine go ?_; intros
      refine w_cond rfl (fun c => ?_) (fun c => ?_)
      · replace h19 := itt h19 c
        try rw [c]
        refine go ?_; intros
        cases h19
        replace h : some _ = some _ := h
        cases h
        exact r_end
      replace h19 := itf h19 c
      try rw [c]
      refine go ?_; intros
      rw [hw17]
      exact k_ln2 _ (Nat.lt_succ_self _) ⟨_, _, h19, rfl, drop_next hd13, pin, pinh⟩
  rintro t o ⟨q8, rfl, pq1, pq2⟩
  refine pinnedQ pq1 pq2 ?_
  refine go ?_; intros
  refine s_split rfl (fun c => ?_) (fun c => ?_)
  · replace h := itt h c
    rw [c]
    refine go ?_; intros
    cases h
    exact r_end
  replace h := itf h c
  rw [c]
  refine go ?_; intros
  cases h
  exact r_end
theorem d_spec_ShapeOk {G : Gam} (H_spec_l1Pts : Has G c_spec_l1Pts) (a0 : Shape) (r : Bool) (h : gf_spec_ShapeOk a0 = some r) : Does G if_spec_ShapeOk ks_spec_ShapeOk (c_spec_ShapeOk.args (a0)) [] (c_spec_ShapeOk.ans (a0) r) := by
  refine does_pn (L := [(0, .agg [.v (.int .i64 a0.kind), .ro (List.map ePt a0.pts)])]) (fun bs => pin) fun bs t o => ?_
  show vwp _ ib_spec_ShapeOk _ _
  unfold ib_spec_ShapeOk
  refine w_ir ?_
  unfold gf_spec_ShapeOk at h
  obtain ⟨x2, h3, h⟩ := bnd h
  refine go ?_; intros
  refine c_call (c := c_spec_l1Pts) (a0.pts) H_spec_l1Pts h3 fun ch => ?_
  refine go ?_; intros
  refine w_cond rfl (fun c => ?_) (fun c => ?_)
  · replace h := itt h c
    try rw [c]
    refine go ?_; intros
    cases h
    exact r_end
  replace h := itf h c
  try rw [c]
  refine go ?_; intros
  refine w_cond rfl (fun c => ?_) (fun c => ?_)
  · replace h := itt h c
    try rw [c]
    refine go ?_; intros
    cases h
    exact r_end
  replace h := itf h c
  try rw [c]
  refine go ?_; intros
  refine w_cond rfl (fun c => ?_) (fun c => ?_)
  · replace h := itt h c
    try rw [c]
    refine go ?_; intros
    cases h
    exact r_end
  replace h := itf h c
  try rw [c]
  refine go ?_; intros
  refine w_cond rfl (fun c => ?_) (fun c => ?_)
  · replace h := itt h c
    try rw [c]
    refine go ?_; intros
    refine s_split rfl (fun c => ?_) (fun c => ?_)
    · replace h := itt h (by first | exact c | (have c2 := c; simp only [List.length_map] at c2; exact c2))
      rw [c]
      obtain ⟨x4, h5, h⟩ := bnd h
      refine go ?_; intros
      refine r_iro rfl rfl h5 rfl ?_
      obtain ⟨x6, h7, h⟩ := bnd h
      refine go ?_; intros
      refine r_iro rfl rfl h7 rfl ?_
      refine go ?_; intros
      cases h
      exact r_end
    replace h := itf h (by first | exact c | (have c2 := c; simp only [List.length_map] at c2; exact c2))
    rw [c]
    refine go ?_; intros
    cases h
    exact r_end
  replace h := itf h c
  try rw [c]
  refine go ?_; intros
  cases h
  exact r_end
theorem d_spec_l2Tags {G : Gam} (H_spec_WordOk : Has G c_spec_WordOk) (a0 : (List Tag)) (r : Bool) (h : gf_spec_l2Tags a0 = some r) : Does G if_spec_l2Tags ks_spec_l2Tags (c_spec_l2Tags.args (a0)) [] (c_spec_l2Tags.ans (a0) r) := by
  refine does_pn (L := [(0, .ro (List.map eTag a0))]) (fun bs => pin) fun bs t o => ?_
  show vwp _ ib_spec_l2Tags _ _
  unfold ib_spec_l2Tags
  refine w_ir ?_
  unfold gf_spec_l2Tags at h
  obtain ⟨hf34, h⟩ := gd h
  obtain ⟨q24, h41, h⟩ := bnd h
  refine go ?_; intros
  refine w_last (fun t o => ∃ q24_, q24 = .inr q24_ ∧ Pin t (ovr [(0, .ro (List.map eTag a0))] t) ∧ PinH o (ovh [] o)) ?_ ?_
  · refine w_loop2 (fun n t o => ∃ l28 k26  , gl_spec_l2Tags_1 a0 l28 k26  = some q24 ∧ n = l28.length ∧ (a0).drop k26 = l28 ∧ Pin t (ovr [(0, .ro (List.map eTag a0)), (3, .v (.int .i64 (k26 : Int)))] t) ∧ PinH o (ovh [] o)) _ ⟨_, _, h41, rfl, rfl, pin, pinh⟩ ?_
    rintro n t o ⟨l28, k26, h41, rfl, hd29, pq1, pq2⟩
    refine pinned pq1 pq2 ?_
    cases l28 with
    | nil =>
      have hge31 := drop_ge hd29
      rw [gl_spec_l2Tags_1] at h41
      refine go ?_; intros
      rw [hge31]
      refine go ?_; intros
      cases h41
      exact k_cn ⟨_, rfl, pin, pinh⟩
    | cons x27 l28 =>
      have hlt30 := drop_lt hd29
      have hx32 := drop_ix hd29
      have hw33 := drop_wr hd29 hf34
      rw [gl_spec_l2Tags_1] at h41
      refine go ?_; intros
      rw [hlt30]
      refine go ?_; intros
      refine r_iro rfl rfl hx32 rfl ?_
      obtain ⟨x35, h36, h41⟩ := bnd h41
      refine go ?_; intros
      refine c_call (c := c_spec_WordOk) (x27.key) H_spec_WordOk h36 fun ch => ?_
      refine go ?_; intros
      refine s_split rfl (fun c => ?_) (fun c => ?_)
      · replace h41 := itt h41 c
        rw [c]
        refine go ?_; intros
        cases h41
        replace h : some _ = some _ := h
        cases h
        exact r_end
      replace h41 := itf h41 c
      rw [c]
      refine go ?_; intros
      refine r_iro rfl rfl hx32 rfl ?_
      obtain ⟨x37, h38, h41⟩ := bnd h41
      refine go ?_; intros
      refine c_call (c := c_spec_WordOk) (x27.val) H_spec_WordOk h38 fun ch => ?_
      refine go ?_; intros
      refine s_split rfl (fun c => ?_) (fun c => ?_)
      · replace h41 := itt h41 c
        rw [c]
        refine go ?_; intros
        cases h41
        replace h : some _ = some _ := h
        cases h
        exact r_end
      replace h41 := itf h41 c
      rw [c]
      refine go ?_; intros
      refine s_split rfl (fun c => ?_) (fun c => ?_)
      · replace h41 := itt h41 c
        rw [c]
        refine go ?_; intros
        refine r_iro rfl rfl hx32 rfl ?_
        obtain ⟨x39, h40, h41⟩ := bnd h41
        refine go ?_; intros
        refine r_iro rfl rfl h40 rfl ?_
        refine go ?_; intros
        refine w_cond rfl (fun c => ?_) (fun c => ?_)
        · replace h41 := itt h41 c
          try rw [c]
          refine go ?_; intros
          cases h41
          replace h : some _ = some _ := h
          cases h
          exact r_end
        replace h41 := itf h41 c
        try rw [c]
        refine go ?_; intros
        rw [hw33]
        exact k_ln2 _ (Nat.lt_succ_self _) ⟨_, _, h41, rfl, drop_next hd29, pin, pinh⟩
      replace h41 := itf h41 c
      rw [c]
      refine go ?_; intros
      rw [hw33]
      exact k_ln2 _ (Nat.lt_succ_self _) ⟨_, _, h41, rfl, drop_next hd29, pin, pinh⟩
  rintro t o ⟨q24, rfl, pq1, pq2⟩
  refine pinnedQ pq1 pq2 ?_
  refine go ?_; intros
  cases h
  exact r_end
theorem d_spec_FeatOk {G : Gam} (H_spec_WordOk : Has G c_spec_WordOk) (H_spec_ShapeOk : Has G c_spec_ShapeOk) (H_spec_l2Tags : Has G c_spec_l2Tags) (a0 : Feat) (r : Bool) (h : gf_spec_FeatOk a0 = some r) : Does G if_spec_FeatOk ks_spec_FeatOk (c_spec_FeatOk.args (a0)) [] (c_spec_FeatOk.ans (a0) r) := by
  refine does_pn (L := [(0, .agg [.v (.string a0.id), .v (.int .i64 a0.shape.kind), .ro (List.map ePt a0.shape.pts), .ro (List.map eTag a0.tags)])]) (fun bs => pin) fun bs t o => ?_
  show vwp _ ib_spec_FeatOk _ _
  unfold ib_spec_FeatOk
  refine w_ir ?_
  unfold gf_spec_FeatOk at h
  obtain ⟨x2, h3, h⟩ := bnd h
  refine go ?_; intros
  refine c_call (c := c_spec_WordOk) (a0.id) H_spec_WordOk h3 fun ch => ?_
  refine go ?_; intros
  refine s_split rfl (fun c => ?_) (fun c => ?_)
  · replace h := itt h c
    rw [c]
    obtain ⟨x4, h5, h⟩ := bnd h
    refine go ?_; intros
    refine c_call (c := c_spec_ShapeOk) (a0.shape) H_spec_ShapeOk h5 fun ch => ?_
    refine go ?_; intros
    refine s_split rfl (fun c => ?_) (fun c => ?_)
    · replace h := itt h c
      rw [c]
      obtain ⟨x6, h7, h⟩ := bnd h
      refine go ?_; intros
      refine c_call (c := c_spec_l2Tags) (a0.tags) H_spec_l2Tags h7 fun ch => ?_
      refine go ?_; intros
      cases h
      exact r_end
    replace h := itf h c
    rw [c]
    refine go ?_; intros
    cases h
    exact r_end
  replace h := itf h c
  rw [c]
  refine go ?_; intros
  cases h
  exact r_end
theorem d_spec_l1Same {G : Gam}  (a0 : (List Pt)) (a1 : (List Pt)) (r : Bool) (h : gf_spec_l1Same a0 a1 = some r) : Does G if_spec_l1Same ks_spec_l1Same (c_spec_l1Same.args (a0, a1)) [] (c_spec_l1Same.ans (a0, a1) r) := by
  refine does_pn (L := [(0, .ro (List.map ePt a0)), (1, .ro (List.map ePt a1))]) (fun bs => pin) fun bs t o => ?_
  show vwp _ ib_spec_l1Same _ _
  unfold ib_spec_l1Same
  refine w_ir ?_
  unfold gf_spec_l1Same at h
  refine go ?_; intros
  refine w_cond rfl (fun c => ?_) (fun c => ?_)
  · replace h := itt h (by first | exact c | (have c2 := c; simp only [List.length_map] at c2; exact c2))
    try rw [c]
    refine go ?_; intros
    cases h
    exact r_end
  replace h := itf h (by first | exact c | (have c2 := c; simp only [List.length_map] at c2; exact c2))
  try rw [c]
  obtain ⟨hf24, h⟩ := gd h
  obtain ⟨q14, h27, h⟩ := bnd h
  refine go ?_; intros
  refine w_last (fun t o => ∃ q14_, q14 = .inr q14_ ∧ Pin t (ovr [] t) ∧ PinH o (ovh [] o)) ?_ ?_
  · refine w_loop2 (fun n t o => ∃ l18 k16  , gl_spec_l1Same_1 a1 l18 k16  = some q14 ∧ n = l18.length ∧ (a0).drop k16 = l18 ∧ Pin t (ovr [(0, .ro (List.map ePt a0)), (1, .ro (List.map ePt a1)), (5, .v (.int .i64 (k16 : Int)))] t) ∧ PinH o (ovh [] o)) _ ⟨_, _, h27, rfl, rfl, pin, pinh⟩ ?_
    rintro n t o ⟨l18, k16, h27, rfl, hd19, pq1, pq2⟩
    refine pinned pq1 pq2 ?_
    cases l18 with
    | nil =>
      have hge21 := drop_ge hd19
      rw [gl_spec_l1Same_1] at h27
      refine go ?_; intros
      rw [hge21]
      refine go ?_; intros
      cases h27
      exact k_cn ⟨_, rfl, pin, pinh⟩
    | cons x17 l18 =>
      have hlt20 := drop_lt hd19
      have hx22 := drop_ix hd19
      have hw23 := drop_wr hd19 hf24
      rw [gl_spec_l1Same_1] at h27
      refine go ?_; intros
      rw [hlt20]
      refine go ?_; intros
      refine r_iro rfl rfl hx22 rfl ?_
      obtain ⟨x25, h26, h27⟩ := bnd h27
      refine go ?_; intros
      refine r_iro rfl rfl h26 rfl ?_
      refine go ?_; intros
      refine w_cond rfl (fun c => ?_) (fun c => ?_)
      · replace h27 := itt h27 c
        try rw [c]
        refine go ?_; intros
        cases h27
        replace h : some _ = some _ := h
        cases h
        exact r_end
      replace h27 := itf h27 c
      try rw [c]
      refine go ?_; intros
      rw [hw23]
      exact k_ln2 _ (Nat.lt_succ_self _) ⟨_, _, h27, rfl, drop_next hd19, pin, pinh⟩
  rintro t o ⟨q14, rfl, pq1, pq2⟩
  refine pinnedQ pq1 pq2 ?_
  refine go ?_; intros
  cases h
  exact r_end
theorem d_spec_ShapeSame {G : Gam} (H_spec_l1Same : Has G c_spec_l1Same) (a0 : Shape) (a1 : Shape) (r : Bool) (h : gf_spec_ShapeSame a0 a1 = some r) : Does G if_spec_ShapeSame ks_spec_ShapeSame (c_spec_ShapeSame.args (a0, a1)) [] (c_spec_ShapeSame.ans (a0, a1) r) := by
  refine does_pn (L := [(0, .agg [.v (.int .i64 a0.kind), .ro (List.map ePt a0.pts)]), (1, .agg [.v (.int .i64 a1.kind), .ro (List.map ePt a1.pts)])]) (fun bs => pin) fun bs t o => ?_
  show vwp _ ib_spec_ShapeSame _ _
  unfold ib_spec_ShapeSame
  refine w_ir ?_
  unfold gf_spec_ShapeSame at h
  refine go ?_; intros
  refine s_split rfl (fun c => ?_) (fun c => ?_)
  · replace h := itt h c
    rw [c]
    obtain ⟨x3, h4, h⟩ := bnd h
    refine go ?_; intros
    refine c_call (c := c_spec_l1Same) (a0.pts, a1.pts) H_spec_l1Same h4 fun ch => ?_
    refine go ?_; intros
    cases h
    exact r_end
  replace h := itf h c
  rw [c]
  refine go ?_; intros
  cases h
  exact r_end
theorem d_spec_l2Same {G : Gam}  (a0 : (List Tag)) (a1 : (List Tag)) (r : Bool) (h : gf_spec_l2Same a0 a1 = some r) : Does G if_spec_l2Same ks_spec_l2Same (c_spec_l2Same.args (a0, a1)) [] (c_spec_l2Same.ans (a0, a1) r) := by
  refine does_pn (L := [(0, .ro (List.map eTag a0)), (1, .ro (List.map eTag a1))]) (fun bs => pin) fun bs t o => ?_
  show vwp _ ib_spec_l2Same _ _
  unfold ib_spec_l2Same
  refine w_ir ?_
  unfold gf_spec_l2Same at h
  refine go ?_; intros
  refine w_cond rfl (fun c => ?_) (fun c => ?_)
  · replace h := itt h (by first | exact c | (have c2 := c; simp only [List.length_map] at c2; exact c2))
    try rw [c]
    refine go ?_; intros
    cases h
    exact r_end
  replace h := itf h (by first | exact c | (have c2 := c; simp only [List.length_map] at c2; exact c2))
  try rw [c]
  obtain ⟨hf24, h⟩ := gd h
  obtain ⟨q14, h27, h⟩ := bnd h
  refine go ?_; intros
  refine w_last (fun t o => ∃ q14_, q14 = .inr q14_ ∧ Pin t (ovr [] t) ∧ PinH o (ovh [] o)) ?_ ?_
  · refine w_loop2 (fun n t o => ∃ l18 k16  , gl_spec_l2Same_1 a1 l18 k16  = some q14 ∧ n = l18.length ∧ (a0).drop k16 = l18 ∧ Pin t (ovr [(0, .ro (List.map eTag a0)), (1, .ro (List.map eTag a1)), (5, .v (.int .i64 (k16 : Int)))] t) ∧ PinH o (ovh [] o)) _ ⟨_, _, h27, rfl, rfl, pin, pinh⟩ ?_
    rintro n t o ⟨l18, k16, h27, rfl, hd19, pq1, pq2⟩
    refine pinned pq1 pq2 ?_
    cases l18 with
    | nil =>
      have hge21 := drop_ge hd19
      rw [gl_spec_l2Same_1] at h27
      refine go ?_; intros
      rw [hge21]
      refine go ?_; intros
      cases h27
      exact k_cn ⟨_, rfl, pin, pinh⟩
    | cons x17 l18 =>
      have hlt20 := drop_lt hd19
      have hx22 := drop_ix hd19
      have hw23 := drop_wr hd19 hf24
      rw [gl_spec_l2Same_1] at h27
      refine go ?_; intros
      rw [hlt20]
      refine go ?_; intros
      refine r_iro rfl rfl hx22 rfl ?_
      obtain ⟨x25, h26, h27⟩ := bnd h27
      refine go ?_; intros
      refine r_iro rfl rfl h26 rfl ?_
      refine go ?_; intros
      refine w_cond rfl (fun c => ?_) (fun c => ?_)
      · replace h27 := itt h27 c
        try rw [c]
        refine go ?_; intros
        cases h27
        replace h : some _ = some _ := h
        cases h
        exact r_end
      replace h27 := itf h27 c
      try rw [c]
      refine go ?_; intros
      rw [hw23]
      exact k_ln2 _ (Nat.lt_succ_self _) ⟨_, _, h27, rfl, drop_next hd19, pin, pinh⟩
  rintro t o ⟨q14, rfl, pq1, pq2⟩
  refine pinnedQ pq1 pq2 ?_
  refine go ?_; intros
  cases h
  exact r_end
theorem d_spec_FeatSame {G : Gam} (H_spec_ShapeSame : Has G c_spec_ShapeSame) (H_spec_l2Same : Has G c_spec_l2Same) (a0 : Feat) (a1 : Feat) (r : Bool) (h : gf_spec_FeatSame a0 a1 = some r) : Does G if_spec_FeatSame ks_spec_FeatSame (c_spec_FeatSame.args (a0, a1)) [] (c_spec_FeatSame.ans (a0, a1) r) := by
  refine does_pn (L := [(0, .agg [.v (.string a0.id), .v (.int .i64 a0.shape.kind), .ro (List.map ePt a0.shape.pts), .ro (List.map eTag a0.tags)]), (1, .agg [.v (.string a1.id), .v (.int .i64 a1.shape.kind), .ro (List.map ePt a1.shape.pts), .ro (List.map eTag a1.tags)])]) (fun bs => pin) fun bs t o => ?_
  show vwp _ ib_spec_FeatSame _ _
  unfold ib_spec_FeatSame
  refine w_ir ?_
  unfold gf_spec_FeatSame at h
  refine go ?_; intros
  refine s_split rfl (fun c => ?_) (fun c => ?_)
  · replace h := itt h c
    rw [c]
    obtain ⟨x3, h4, h⟩ := bnd h
    refine go ?_; intros
    refine c_call (c := c_spec_ShapeSame) (a0.shape, a1.shape) H_spec_ShapeSame h4 fun ch => ?_
    refine go ?_; intros
    refine s_split rfl (fun c => ?_) (fun c => ?_)
    · replace h := itt h c
      rw [c]
      obtain ⟨x5, h6, h⟩ := bnd h
      refine go ?_; intros
      refine c_call (c := c_spec_l2Same) (a0.tags, a1.tags) H_spec_l2Same h6 fun ch => ?_
      refine go ?_; intros
      cases h
      exact r_end
    replace h := itf h c
    rw [c]
    refine go ?_; intros
    cases h
    exact r_end
  replace h := itf h c
  rw [c]
  refine go ?_; intros
  cases h
  exact r_end
theorem d_spec_l7Ints {G : Gam}  (a0 : (List Int)) (a1 : (List Int)) (r : Bool) (h : gf_spec_l7Ints a0 a1 = some r) : Does G if_spec_l7Ints ks_spec_l7Ints (c_spec_l7Ints.args (a0, a1)) [] (c_spec_l7Ints.ans (a0, a1) r) := by
  refine does_pn (L := [(0, .ro (List.map eInt a0)), (1, .ro (List.map eInt a1))]) (fun bs => pin) fun bs t o => ?_
  show vwp _ ib_spec_l7Ints _ _
  unfold ib_spec_l7Ints
  refine w_ir ?_
  unfold gf_spec_l7Ints at h
  refine go ?_; intros
  refine w_cond rfl (fun c => ?_) (fun c => ?_)
  · replace h := itt h (by first | exact c | (have c2 := c; simp only [List.length_map] at c2; exact c2))
    try rw [c]
    refine go ?_; intros
    cases h
    exact r_end
  replace h := itf h (by first | exact c | (have c2 := c; simp only [List.length_map] at c2; exact c2))
  try rw [c]
  obtain ⟨hf24, h⟩ := gd h
  obtain ⟨q14, h27, h⟩ := bnd h
  refine go ?_; intros
  refine w_last (fun t o => ∃ q14_, q14 = .inr q14_ ∧ Pin t (ovr [] t) ∧ PinH o (ovh [] o)) ?_ ?_
  · refine w_loop2 (fun n t o => ∃ l18 k16  , gl_spec_l7Ints_1 a1 l18 k16  = some q14 ∧ n = l18.length ∧ (a0).drop k16 = l18 ∧ Pin t (ovr [(0, .ro (List.map eInt a0)), (1, .ro (List.map eInt a1)), (5, .v (.int .i64 (k16 : Int)))] t) ∧ PinH o (ovh [] o)) _ ⟨_, _, h27, rfl, rfl, pin, pinh⟩ ?_
    rintro n t o ⟨l18, k16, h27, rfl, hd19, pq1, pq2⟩
    refine pinned pq1 pq2 ?_
    cases l18 with
    | nil =>
      have hge21 := drop_ge hd19
      rw [gl_spec_l7Ints_1] at h27
      refine go ?_; intros
      rw [hge21]
      refine go ?_; intros
      cases h27
      exact k_cn ⟨_, rfl, pin, pinh⟩
    | cons x17 l18 =>
      have hlt20 := drop_lt hd19
      have hx22 := drop_ix hd19
      have hw23 := drop_wr hd19 hf24
      rw [gl_spec_l7Ints_1] at h27
      refine go ?_; intros
      rw [hlt20]
      refine go ?_; intros
      refine r_iro rfl rfl hx22 rfl ?_
      obtain ⟨x25, h26, h27⟩ := bnd h27
      refine go ?_; intros
      refine r_iro rfl rfl h26 rfl ?_
      refine go ?_; intros
      refine w_cond rfl (fun c => ?_) (fun c => ?_)
      · replace h27 := itt h27 c
        try rw [c]
        refine go ?_; intros
        cases h27
        replace h : some _ = some _ := h
        cases h
        exact r_end
      replace h27 := itf h27 c
      try rw [c]
      refine go ?_; intros
      rw [hw23]
      exact k_ln2 _ (Nat.lt_succ_self _) ⟨_, _, h27, rfl, drop_next hd19, pin, pinh⟩
  rintro t o ⟨q14, rfl, pq1, pq2⟩
  refine pinnedQ pq1 pq2 ?_
  refine go ?_; intros
  cases h
  exact r_end
theorem d_spec_SheetSame {G : Gam} (H_spec_FeatSame : Has G c_spec_FeatSame) (a0 : (List Feat)) (a1 : (List Feat)) (r : Bool) (h : gf_spec_SheetSame a0 a1 = some r) : Does G if_spec_SheetSame ks_spec_SheetSame (c_spec_SheetSame.args (a0, a1)) [] (c_spec_SheetSame.ans (a0, a1) r) := by
  refine does_pn (L := [(0, .ro (List.map (eFeat false) a0)), (1, .ro (List.map (eFeat false) a1))]) (fun bs => pin) fun bs t o => ?_
  show vwp _ ib_spec_SheetSame _ _
  unfold ib_spec_SheetSame
  refine w_ir ?_
  unfold gf_spec_SheetSame at h
  refine go ?_; intros
  refine w_cond rfl (fun c => ?_) (fun c => ?_)
  · replace h := itt h (by first | exact c | (have c2 := c; simp only [List.length_map] at c2; exact c2))
    try rw [c]
    refine go ?_; intros
    cases h
    exact r_end
  replace h := itf h (by first | exact c | (have c2 := c; simp only [List.length_map] at c2; exact c2))
  try rw [c]
  obtain ⟨hf30, h⟩ := gd h
  obtain ⟨q20, h35, h⟩ := bnd h
  refine go ?_; intros
  refine w_last (fun t o => ∃ q20_, q20 = .inr q20_ ∧ Pin t (ovr [] t) ∧ PinH o (ovh [] o)) ?_ ?_
  · refine w_loop2 (fun n t o => ∃ l24 k22  , gl_spec_SheetSame_1 a1 l24 k22  = some q20 ∧ n = l24.length ∧ (a0).drop k22 = l24 ∧ Pin t (ovr [(0, .ro (List.map (eFeat false) a0)), (1, .ro (List.map (eFeat false) a1)), (5, .v (.int .i64 (k22 : Int)))] t) ∧ PinH o (ovh [] o)) _ ⟨_, _, h35, rfl, rfl, pin, pinh⟩ ?_
    rintro n t o ⟨l24, k22, h35, rfl, hd25, pq1, pq2⟩
    refine pinned pq1 pq2 ?_
    cases l24 with
    | nil =>
      have hge27 := drop_ge hd25
      rw [gl_spec_SheetSame_1] at h35
      refine go ?_; intros
      rw [hge27]
      refine go ?_; intros
      cases h35
      exact k_cn ⟨_, rfl, pin, pinh⟩
    | cons x23 l24 =>
      have hlt26 := drop_lt hd25
      have hx28 := drop_ix hd25
      have hw29 := drop_wr hd25 hf30
      rw [gl_spec_SheetSame_1] at h35
      refine go ?_; intros
      rw [hlt26]
      refine go ?_; intros
      refine r_iro rfl rfl hx28 rfl ?_
      obtain ⟨x31, h32, h35⟩ := bnd h35
      refine go ?_; intros
      refine r_iro rfl rfl h32 rfl ?_
      obtain ⟨x33, h34, h35⟩ := bnd h35
      refine go ?_; intros
      refine c_call (c := c_spec_FeatSame) (x23, x31) H_spec_FeatSame h34 fun ch => ?_
      refine go ?_; intros
      refine w_cond rfl (fun c => ?_) (fun c => ?_)
      · replace h35 := itt h35 c
        try rw [c]
        refine go ?_; intros
        cases h35
        replace h : some _ = some _ := h
        cases h
        exact r_end
      replace h35 := itf h35 c
      try rw [c]
      refine go ?_; intros
      rw [hw29]
      exact k_ln2 _ (Nat.lt_succ_self _) ⟨_, _, h35, rfl, drop_next hd25, pin, pinh⟩
  rintro t o ⟨q20, rfl, pq1, pq2⟩
  refine pinnedQ pq1 pq2 ?_
  refine go ?_; intros
  cases h
  exact r_end
theorem d_spec_l7Same {G : Gam} (H_spec_l7Ints : Has G c_spec_l7Ints) (H_spec_SheetSame : Has G c_spec_SheetSame) (a0 : Commit) (a1 : Commit) (r : Bool) (h : gf_spec_l7Same a0 a1 = some r) : Does G if_spec_l7Same ks_spec_l7Same (c_spec_l7Same.args (a0, a1)) [] (c_spec_l7Same.ans (a0, a1) r) := by
  refine does_pn (L := [(0, .agg [.ro (List.map eInt a0.up), .ro (List.map (eFeat false) a0.sheet), .v (.string a0.note)]), (1, .agg [.ro (List.map eInt a1.up), .ro (List.map (eFeat false) a1.sheet), .v (.string a1.note)])]) (fun bs => pin) fun bs t o => ?_
  show vwp _ ib_spec_l7Same _ _
  unfold ib_spec_l7Same
  refine w_ir ?_
  unfold gf_spec_l7Same at h
  obtain ⟨x3, h4, h⟩ := bnd h
  refine go ?_; intros
  refine c_call (c := c_spec_l7Ints) (a0.up, a1.up) H_spec_l7Ints h4 fun ch => ?_
  refine go ?_; intros
  refine s_split rfl (fun c => ?_) (fun c => ?_)
  · replace h := itt h c
    rw [c]
    obtain ⟨x5, h6, h⟩ := bnd h
    refine go ?_; intros
    refine c_call (c := c_spec_SheetSame) (a0.sheet, a1.sheet) H_spec_SheetSame h6 fun ch => ?_
    refine go ?_; intros
    refine s_split rfl (fun c => ?_) (fun c => ?_)
    · replace h := itt h c
      rw [c]
      refine go ?_; intros
      cases h
      exact r_end
    replace h := itf h c
    rw [c]
    refine go ?_; intros
    cases h
    exact r_end
  replace h := itf h c
  rw [c]
  refine go ?_; intros
  cases h
  exact r_end
theorem d_spec_l7Up {G : Gam}  (a0 : (List Int)) (a1 : Int) (r : Bool) (h : gf_spec_l7Up a0 a1 = some r) : Does G if_spec_l7Up ks_spec_l7Up (c_spec_l7Up.args (a0, a1)) [] (c_spec_l7Up.ans (a0, a1) r) := by
  refine does_pn (L := [(0, .ro (List.map eInt a0)), (1, .v (.int .i64 a1))]) (fun bs => pin) fun bs t o => ?_
  show vwp _ ib_spec_l7Up _ _
  unfold ib_spec_l7Up
  refine w_ir ?_
  unfold gf_spec_l7Up at h
  obtain ⟨hf18, h⟩ := gd h
  obtain ⟨q8, h23, h⟩ := bnd h
  refine go ?_; intros
  refine w_last (fun t o => ∃ q8_, q8 = .inr q8_ ∧ Pin t (ovr [(0, .ro (List.map eInt a0)), (1, .v (.int .i64 a1))] t) ∧ PinH o (ovh [] o)) ?_ ?_
  · refine w_loop2 (fun n t o => ∃ l12 k10  , gl_spec_l7Up_1 a1 l12 k10  = some q8 ∧ n = l12.length ∧ (a0).drop k10 = l12 ∧ Pin t (ovr [(0, .ro (List.map eInt a0)), (1, .v (.int .i64 a1)), (5, .v (.int .i64 (k10 : Int)))] t) ∧ PinH o (ovh [] o)) _ ⟨_, _, h23, rfl, rfl, pin, pinh⟩ ?_
    rintro n t o ⟨l12, k10, h23, rfl, hd13, pq1, pq2⟩
    refine pinned pq1 pq2 ?_
    cases l12 with
    | nil =>
      have hge15 := drop_ge hd13
      rw [gl_spec_l7Up_1] at h23
      refine go ?_; intros
      rw [hge15]
      refine go ?_; intros
      cases h23
      exact k_cn ⟨_, rfl, pin, pinh⟩
    | cons x11 l12 =>
      have hlt14 := drop_lt hd13
      have hx16 := drop_ix hd13
      have hw17 := drop_wr hd13 hf18
      rw [gl_spec_l7Up_1] at h23
      refine go ?_; intros
      rw [hlt14]
      refine go ?_; intros
      refine r_iro rfl rfl hx16 rfl ?_
      refine go ?_; intros
      refine s_split rfl (fun c => ?_) (fun c => ?_)
      · replace h23 := itt h23 c
        rw [c]
        refine go ?_; intros
        cases h23
        replace h : some _ = some _ := h
        cases h
        exact r_end
      replace h23 := itf h23 c
      rw [c]
      refine go ?_; intros
      refine r_iro rfl rfl hx16 rfl ?_
      refine go ?_; intros
      refine w_cond rfl (fun c => ?_) (fun c => ?_)
      · replace h23 := itt h23 c
        try rw [c]
        refine go ?_; intros
        cases h23
        replace h : some _ = some _ := h
        cases h
        exact r_end
      replace h23 := itf h23 c
      try rw [c]
      refine go ?_; intros
      rw [hw17]
      exact k_ln2 _ (Nat.lt_succ_self _) ⟨_, _, h23, rfl, drop_next hd13, pin, pinh⟩
  rintro t o ⟨q8, rfl, pq1, pq2⟩
  refine pinnedQ pq1 pq2 ?_
  refine go ?_; intros
  refine s_split rfl (fun c => ?_) (fun c => ?_)
  · replace h := itt h (by first | exact c | (have c2 := c; simp only [List.length_map] at c2; exact c2))
    rw [c]
    refine go ?_; intros
    refine s_split rfl (fun c => ?_) (fun c => ?_)
    · replace h := itt h (by first | exact c | (have c2 := c; simp only [List.length_map] at c2; exact c2))
      rw [c]
      refine go ?_; intros
      refine s_split rfl (fun c => ?_) (fun c => ?_)
      · replace h := itt h (by first | exact c | (have c2 := c; simp only [List.length_map] at c2; exact c2))
        rw [c]
        refine go ?_; intros
        cases h
        exact r_end
      replace h := itf h (by first | exact c | (have c2 := c; simp only [List.length_map] at c2; exact c2))
      rw [c]
      obtain ⟨x19, h20, h⟩ := bnd h
      refine go ?_; intros
      refine r_iro rfl rfl h20 rfl ?_
      obtain ⟨x21, h22, h⟩ := bnd h
      refine go ?_; intros
      refine r_iro rfl rfl h22 rfl ?_
      refine go ?_; intros
      cases h
      exact r_end
    replace h := itf h (by first | exact c | (have c2 := c; simp only [List.length_map] at c2; exact c2))
    rw [c]
    refine go ?_; intros
    cases h
    exact r_end
  replace h := itf h (by first | exact c | (have c2 := c; simp only [List.length_map] at c2; exact c2))
  rw [c]
  refine go ?_; intros
  cases h
  exact r_end
end Go.Proofs.AM
