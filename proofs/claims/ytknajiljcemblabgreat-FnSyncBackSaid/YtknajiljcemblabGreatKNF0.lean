/- Lemmas of the proof (KNF0), on an abstract machine. Conditions: none. -/
import Derived.Test.YtknajiljcemblabGreatKND
set_option linter.unusedVariables false
set_option linter.unusedSimpArgs false
set_option maxRecDepth 100000
set_option maxHeartbeats 4000000
namespace Go.Proofs.AM
attribute [local irreducible] vwp vstps vstpLs vstp vdo vret kseq kblk kloop kend kcut kloop2 frzV renV shutK pfzV trnV unrV
theorem d_cu9 {G : Gam}  (a0 : Int) (r : Bool) (h : gf_cu9 a0 = some r) : Does G if_cu9 ks_cu9 (c_cu9.args (a0)) [] (c_cu9.ans (a0) r) := by
 refine does_pn (L := [(0, .v (.int .i64 a0))]) (fun bs => pin) fun bs t o => ?_
 show vwp _ ib_cu9 _ _
 unfold ib_cu9
 refine w_ir ?_
 unfold gf_cu9 at h
 refine go ?_;intros
 refine s_split rfl (fun c => ?_) (fun c => ?_)
 ·replace h := itt h c
  rw [c]
  refine go ?_;intros
  cases h
  exact r_end
 replace h := itf h c
 rw [c]
 refine go ?_;intros
 cases h
 exact r_end
theorem d_cw9 {G : Gam} (H_cu9 : Has G c_cu9) (a0 : (List Pt)) (r : Bool) (h : gf_cw9 a0 = some r) : Does G if_cw9 ks_cw9 (c_cw9.args (a0)) [] (c_cw9.ans (a0) r) := by
 refine does_pn (L := [(0, .ro (List.map ePt a0))]) (fun bs => pin) fun bs t o => ?_
 show vwp _ ib_cw9 _ _
 unfold ib_cw9
 refine w_ir ?_
 unfold gf_cw9 at h
 obtain ⟨hf34, h⟩ := gd h
 obtain ⟨q24, h41, h⟩ := bnd h
 refine go ?_;intros
 refine w_last (fun t o => ∃ q24_, q24 = .inr q24_ ∧ Pin t (ovr [(0, .ro (List.map ePt a0))] t) ∧ PinH o (ovh [] o)) ?_ ?_
 ·refine w_loop2 (fun n t o => ∃ l28 k26  , gl_cw9_1 a0 l28 k26  = some q24 ∧ n = l28.length ∧ (a0).drop k26 = l28 ∧ Pin t (ovr [(0, .ro (List.map ePt a0)), (3, .v (.int .i64 (k26 : Int)))] t) ∧ PinH o (ovh [] o)) _ ⟨_, _, h41, rfl, rfl, pin, pinh⟩ ?_
  rintro n t o ⟨l28, k26, h41, rfl, hd29, pq1, pq2⟩
  refine pinned pq1 pq2 ?_
  cases l28 with
  | nil =>
   have hge31 := drop_ge hd29
   rw [gl_cw9_1] at h41
   refine go ?_;intros
   rw [hge31]
   refine go ?_;intros
   cases h41
   exact k_cn ⟨_, rfl, pin, pinh⟩
  | cons x27 l28 =>
   have hlt30 := drop_lt hd29
   have hx32 := drop_ix hd29
   have hw33 := drop_wr hd29 hf34
   rw [gl_cw9_1] at h41
   refine go ?_;intros
   rw [hlt30]
   refine go ?_;intros
   refine r_iro rfl rfl hx32 rfl ?_
   obtain ⟨x35, h36, h41⟩ := bnd h41
   refine go ?_;intros
   refine c_call (c := c_cu9) (x27.x) H_cu9 h36 fun ch => ?_
   refine go ?_;intros
   refine s_split rfl (fun c => ?_) (fun c => ?_)
   ·replace h41 := itt h41 c
    rw [c]
    refine go ?_;intros
    cases h41
    replace h : some _ = some _ := h
    cases h
    exact r_end
   replace h41 := itf h41 c
   rw [c]
   refine go ?_;intros
   refine r_iro rfl rfl hx32 rfl ?_
   obtain ⟨x37, h38, h41⟩ := bnd h41
   refine go ?_;intros
   refine c_call (c := c_cu9) (x27.y) H_cu9 h38 fun ch => ?_
   refine go ?_;intros
   refine s_split rfl (fun c => ?_) (fun c => ?_)
   ·replace h41 := itt h41 c
    rw [c]
    refine go ?_;intros
    cases h41
    replace h : some _ = some _ := h
    cases h
    exact r_end
   replace h41 := itf h41 c
   rw [c]
   refine go ?_;intros
   refine s_split rfl (fun c => ?_) (fun c => ?_)
   ·replace h41 := itt h41 c
    rw [c]
    refine go ?_;intros
    refine r_iro rfl rfl hx32 rfl ?_
    obtain ⟨x39, h40, h41⟩ := bnd h41
    refine go ?_;intros
    refine r_iro rfl rfl h40 rfl ?_
    refine go ?_;intros
    refine w_cond rfl (fun c => ?_) (fun c => ?_)
    ·replace h41 := itt h41 c
     try rw [c]
     refine go ?_;intros
     cases h41
     replace h : some _ = some _ := h
     cases h
     exact r_end
    replace h41 := itf h41 c
    try rw [c]
    refine go ?_;intros
    rw [hw33]
    exact k_ln2 _ (Nat.lt_succ_self _) ⟨_, _, h41, rfl, drop_next hd29, pin, pinh⟩
   replace h41 := itf h41 c
   rw [c]
   refine go ?_;intros
   rw [hw33]
   exact k_ln2 _ (Nat.lt_succ_self _) ⟨_, _, h41, rfl, drop_next hd29, pin, pinh⟩
 rintro t o ⟨q24, rfl, pq1, pq2⟩
 refine pinnedQ pq1 pq2 ?_
 refine go ?_;intros
 cases h
 exact r_end
theorem d_ci9 {G : Gam}  (a0 : Str) (r : Bool) (h : gf_ci9 a0 = some r) : Does G if_ci9 ks_ci9 (c_ci9.args (a0)) [] (c_ci9.ans (a0) r) := by
 refine does_pn (L := [(0, .v (.string a0))]) (fun bs => pin) fun bs t o => ?_
 show vwp _ ib_ci9 _ _
 unfold ib_ci9
 refine w_ir ?_
 unfold gf_ci9 at h
 obtain ⟨hf18, h⟩ := gd h
 obtain ⟨q8, h19, h⟩ := bnd h
 refine go ?_;intros
 refine w_last (fun t o => ∃ q8_, q8 = .inr q8_ ∧ Pin t (ovr [(0, .v (.string a0))] t) ∧ PinH o (ovh [] o)) ?_ ?_
 ·refine w_loop2 (fun n t o => ∃ l12 k10  , gl_ci9_1 l12 k10  = some q8 ∧ n = l12.length ∧ (a0.data.toList).drop k10 = l12 ∧ Pin t (ovr [(0, .v (.string a0)), (3, .v (.int .i64 (k10 : Int)))] t) ∧ PinH o (ovh [] o)) _ ⟨_, _, h19, rfl, rfl, pin, pinh⟩ ?_
  rintro n t o ⟨l12, k10, h19, rfl, hd13, pq1, pq2⟩
  refine pinned pq1 pq2 ?_
  cases l12 with
  | nil =>
   have hge15 := drop_geB hd13
   rw [gl_ci9_1] at h19
   refine go ?_;intros
   rw [hge15]
   refine go ?_;intros
   cases h19
   exact k_cn ⟨_, rfl, pin, pinh⟩
  | cons x11 l12 =>
   have hlt14 := drop_ltB hd13
   have hx16 := drop_ixB hd13
   have hw17 := drop_wrB hd13 hf18
   rw [gl_ci9_1] at h19
   refine go ?_;intros
   rw [hlt14]
   refine go ?_;intros
   refine r_sidx rfl rfl hx16 ?_
   refine go ?_;intros
   refine s_split rfl (fun c => ?_) (fun c => ?_)
   ·replace h19 := itt h19 c
    rw [c]
    refine go ?_;intros
    cases h19
    replace h : some _ = some _ := h
    cases h
    exact r_end
   replace h19 := itf h19 c
   rw [c]
   refine go ?_;intros
   refine r_sidx rfl rfl hx16 ?_
   refine go ?_;intros
   refine w_cond rfl (fun c => ?_) (fun c => ?_)
   ·replace h19 := itt h19 c
    try rw [c]
    refine go ?_;intros
    cases h19
    replace h : some _ = some _ := h
    cases h
    exact r_end
   replace h19 := itf h19 c
   try rw [c]
   refine go ?_;intros
   rw [hw17]
   exact k_ln2 _ (Nat.lt_succ_self _) ⟨_, _, h19, rfl, drop_next hd13, pin, pinh⟩
 rintro t o ⟨q8, rfl, pq1, pq2⟩
 refine pinnedQ pq1 pq2 ?_
 refine go ?_;intros
 refine s_split rfl (fun c => ?_) (fun c => ?_)
 ·replace h := itt h c
  rw [c]
  refine go ?_;intros
  cases h
  exact r_end
 replace h := itf h c
 rw [c]
 refine go ?_;intros
 cases h
 exact r_end
theorem d_cd9 {G : Gam} (H_cw9 : Has G c_cw9) (a0 : Shape) (r : Bool) (h : gf_cd9 a0 = some r) : Does G if_cd9 ks_cd9 (c_cd9.args (a0)) [] (c_cd9.ans (a0) r) := by
 refine does_pn (L := [(0, .agg [.v (.int .i64 a0.kind), .ro (List.map ePt a0.pts)])]) (fun bs => pin) fun bs t o => ?_
 show vwp _ ib_cd9 _ _
 unfold ib_cd9
 refine w_ir ?_
 unfold gf_cd9 at h
 obtain ⟨x2, h3, h⟩ := bnd h
 refine go ?_;intros
 refine c_call (c := c_cw9) (a0.pts) H_cw9 h3 fun ch => ?_
 refine go ?_;intros
 refine w_cond rfl (fun c => ?_) (fun c => ?_)
 ·replace h := itt h c
  try rw [c]
  refine go ?_;intros
  cases h
  exact r_end
 replace h := itf h c
 try rw [c]
 refine go ?_;intros
 refine w_cond rfl (fun c => ?_) (fun c => ?_)
 ·replace h := itt h c
  try rw [c]
  refine go ?_;intros
  cases h
  exact r_end
 replace h := itf h c
 try rw [c]
 refine go ?_;intros
 refine w_cond rfl (fun c => ?_) (fun c => ?_)
 ·replace h := itt h c
  try rw [c]
  refine go ?_;intros
  cases h
  exact r_end
 replace h := itf h c
 try rw [c]
 refine go ?_;intros
 refine w_cond rfl (fun c => ?_) (fun c => ?_)
 ·replace h := itt h c
  try rw [c]
  refine go ?_;intros
  refine s_split rfl (fun c => ?_) (fun c => ?_)
  ·replace h := itt h (by first | exact c | (have c2 := c; simp only [List.length_map] at c2; exact c2))
   rw [c]
   obtain ⟨x4, h5, h⟩ := bnd h
   refine go ?_;intros
   refine r_iro rfl rfl h5 rfl ?_
   obtain ⟨x6, h7, h⟩ := bnd h
   refine go ?_;intros
   refine r_iro rfl rfl h7 rfl ?_
   refine go ?_;intros
   cases h
   exact r_end
  replace h := itf h (by first | exact c | (have c2 := c; simp only [List.length_map] at c2; exact c2))
  rw [c]
  refine go ?_;intros
  cases h
  exact r_end
 replace h := itf h c
 try rw [c]
 refine go ?_;intros
 cases h
 exact r_end
theorem d_dg9 {G : Gam} (H_ci9 : Has G c_ci9) (a0 : (List Tag)) (r : Bool) (h : gf_dg9 a0 = some r) : Does G if_dg9 ks_dg9 (c_dg9.args (a0)) [] (c_dg9.ans (a0) r) := by
 refine does_pn (L := [(0, .ro (List.map eTag a0))]) (fun bs => pin) fun bs t o => ?_
 show vwp _ ib_dg9 _ _
 unfold ib_dg9
 refine w_ir ?_
 unfold gf_dg9 at h
 obtain ⟨hf34, h⟩ := gd h
 obtain ⟨q24, h41, h⟩ := bnd h
 refine go ?_;intros
 refine w_last (fun t o => ∃ q24_, q24 = .inr q24_ ∧ Pin t (ovr [(0, .ro (List.map eTag a0))] t) ∧ PinH o (ovh [] o)) ?_ ?_
 ·refine w_loop2 (fun n t o => ∃ l28 k26  , gl_dg9_1 a0 l28 k26  = some q24 ∧ n = l28.length ∧ (a0).drop k26 = l28 ∧ Pin t (ovr [(0, .ro (List.map eTag a0)), (3, .v (.int .i64 (k26 : Int)))] t) ∧ PinH o (ovh [] o)) _ ⟨_, _, h41, rfl, rfl, pin, pinh⟩ ?_
  rintro n t o ⟨l28, k26, h41, rfl, hd29, pq1, pq2⟩
  refine pinned pq1 pq2 ?_
  cases l28 with
  | nil =>
   have hge31 := drop_ge hd29
   rw [gl_dg9_1] at h41
   refine go ?_;intros
   rw [hge31]
   refine go ?_;intros
   cases h41
   exact k_cn ⟨_, rfl, pin, pinh⟩
  | cons x27 l28 =>
   have hlt30 := drop_lt hd29
   have hx32 := drop_ix hd29
   have hw33 := drop_wr hd29 hf34
   rw [gl_dg9_1] at h41
   refine go ?_;intros
   rw [hlt30]
   refine go ?_;intros
   refine r_iro rfl rfl hx32 rfl ?_
   obtain ⟨x35, h36, h41⟩ := bnd h41
   refine go ?_;intros
   refine c_call (c := c_ci9) (x27.key) H_ci9 h36 fun ch => ?_
   refine go ?_;intros
   refine s_split rfl (fun c => ?_) (fun c => ?_)
   ·replace h41 := itt h41 c
    rw [c]
    refine go ?_;intros
    cases h41
    replace h : some _ = some _ := h
    cases h
    exact r_end
   replace h41 := itf h41 c
   rw [c]
   refine go ?_;intros
   refine r_iro rfl rfl hx32 rfl ?_
   obtain ⟨x37, h38, h41⟩ := bnd h41
   refine go ?_;intros
   refine c_call (c := c_ci9) (x27.val) H_ci9 h38 fun ch => ?_
   refine go ?_;intros
   refine s_split rfl (fun c => ?_) (fun c => ?_)
   ·replace h41 := itt h41 c
    rw [c]
    refine go ?_;intros
    cases h41
    replace h : some _ = some _ := h
    cases h
    exact r_end
   replace h41 := itf h41 c
   rw [c]
   refine go ?_;intros
   refine s_split rfl (fun c => ?_) (fun c => ?_)
   ·replace h41 := itt h41 c
    rw [c]
    refine go ?_;intros
    refine r_iro rfl rfl hx32 rfl ?_
    obtain ⟨x39, h40, h41⟩ := bnd h41
    refine go ?_;intros
    refine r_iro rfl rfl h40 rfl ?_
    refine go ?_;intros
    refine w_cond rfl (fun c => ?_) (fun c => ?_)
    ·replace h41 := itt h41 c
     try rw [c]
     refine go ?_;intros
     cases h41
     replace h : some _ = some _ := h
     cases h
     exact r_end
    replace h41 := itf h41 c
    try rw [c]
    refine go ?_;intros
    rw [hw33]
    exact k_ln2 _ (Nat.lt_succ_self _) ⟨_, _, h41, rfl, drop_next hd29, pin, pinh⟩
   replace h41 := itf h41 c
   rw [c]
   refine go ?_;intros
   rw [hw33]
   exact k_ln2 _ (Nat.lt_succ_self _) ⟨_, _, h41, rfl, drop_next hd29, pin, pinh⟩
 rintro t o ⟨q24, rfl, pq1, pq2⟩
 refine pinnedQ pq1 pq2 ?_
 refine go ?_;intros
 cases h
 exact r_end
theorem d_bw9 {G : Gam} (H_ci9 : Has G c_ci9) (H_cd9 : Has G c_cd9) (H_dg9 : Has G c_dg9) (a0 : Feat) (r : Bool) (h : gf_bw9 a0 = some r) : Does G if_bw9 ks_bw9 (c_bw9.args (a0)) [] (c_bw9.ans (a0) r) := by
 refine does_pn (L := [(0, .agg [.v (.string a0.id), .v (.int .i64 a0.shape.kind), .ro (List.map ePt a0.shape.pts), .ro (List.map eTag a0.tags)])]) (fun bs => pin) fun bs t o => ?_
 show vwp _ ib_bw9 _ _
 unfold ib_bw9
 refine w_ir ?_
 unfold gf_bw9 at h
 obtain ⟨x2, h3, h⟩ := bnd h
 refine go ?_;intros
 refine c_call (c := c_ci9) (a0.id) H_ci9 h3 fun ch => ?_
 refine go ?_;intros
 refine s_split rfl (fun c => ?_) (fun c => ?_)
 ·replace h := itt h c
  rw [c]
  obtain ⟨x4, h5, h⟩ := bnd h
  refine go ?_;intros
  refine c_call (c := c_cd9) (a0.shape) H_cd9 h5 fun ch => ?_
  refine go ?_;intros
  refine s_split rfl (fun c => ?_) (fun c => ?_)
  ·replace h := itt h c
   rw [c]
   obtain ⟨x6, h7, h⟩ := bnd h
   refine go ?_;intros
   refine c_call (c := c_dg9) (a0.tags) H_dg9 h7 fun ch => ?_
   refine go ?_;intros
   cases h
   exact r_end
  replace h := itf h c
  rw [c]
  refine go ?_;intros
  cases h
  exact r_end
 replace h := itf h c
 rw [c]
 refine go ?_;intros
 cases h
 exact r_end
theorem d_cx9 {G : Gam}  (a0 : (List Pt)) (a1 : (List Pt)) (r : Bool) (h : gf_cx9 a0 a1 = some r) : Does G if_cx9 ks_cx9 (c_cx9.args (a0, a1)) [] (c_cx9.ans (a0, a1) r) := by
 refine does_pn (L := [(0, .ro (List.map ePt a0)), (1, .ro (List.map ePt a1))]) (fun bs => pin) fun bs t o => ?_
 show vwp _ ib_cx9 _ _
 unfold ib_cx9
 refine w_ir ?_
 unfold gf_cx9 at h
 refine go ?_;intros
 refine w_cond rfl (fun c => ?_) (fun c => ?_)
 ·replace h := itt h (by first | exact c | (have c2 := c; simp only [List.length_map] at c2; exact c2))
  try rw [c]
  refine go ?_;intros
  cases h
  exact r_end
 replace h := itf h (by first | exact c | (have c2 := c; simp only [List.length_map] at c2; exact c2))
 try rw [c]
 obtain ⟨hf24, h⟩ := gd h
 obtain ⟨q14, h27, h⟩ := bnd h
 refine go ?_;intros
 refine w_last (fun t o => ∃ q14_, q14 = .inr q14_ ∧ Pin t (ovr [] t) ∧ PinH o (ovh [] o)) ?_ ?_
 ·refine w_loop2 (fun n t o => ∃ l18 k16  , gl_cx9_1 a1 l18 k16  = some q14 ∧ n = l18.length ∧ (a0).drop k16 = l18 ∧ Pin t (ovr [(0, .ro (List.map ePt a0)), (1, .ro (List.map ePt a1)), (5, .v (.int .i64 (k16 : Int)))] t) ∧ PinH o (ovh [] o)) _ ⟨_, _, h27, rfl, rfl, pin, pinh⟩ ?_
  rintro n t o ⟨l18, k16, h27, rfl, hd19, pq1, pq2⟩
  refine pinned pq1 pq2 ?_
  cases l18 with
  | nil =>
   have hge21 := drop_ge hd19
   rw [gl_cx9_1] at h27
   refine go ?_;intros
   rw [hge21]
   refine go ?_;intros
   cases h27
   exact k_cn ⟨_, rfl, pin, pinh⟩
  | cons x17 l18 =>
   have hlt20 := drop_lt hd19
   have hx22 := drop_ix hd19
   have hw23 := drop_wr hd19 hf24
   rw [gl_cx9_1] at h27
   refine go ?_;intros
   rw [hlt20]
   refine go ?_;intros
   refine r_iro rfl rfl hx22 rfl ?_
   obtain ⟨x25, h26, h27⟩ := bnd h27
   refine go ?_;intros
   refine r_iro rfl rfl h26 rfl ?_
   refine go ?_;intros
   refine w_cond rfl (fun c => ?_) (fun c => ?_)
   ·replace h27 := itt h27 c
    try rw [c]
    refine go ?_;intros
    cases h27
    replace h : some _ = some _ := h
    cases h
    exact r_end
   replace h27 := itf h27 c
   try rw [c]
   refine go ?_;intros
   rw [hw23]
   exact k_ln2 _ (Nat.lt_succ_self _) ⟨_, _, h27, rfl, drop_next hd19, pin, pinh⟩
 rintro t o ⟨q14, rfl, pq1, pq2⟩
 refine pinnedQ pq1 pq2 ?_
 refine go ?_;intros
 cases h
 exact r_end
theorem d_ce9 {G : Gam} (H_cx9 : Has G c_cx9) (a0 : Shape) (a1 : Shape) (r : Bool) (h : gf_ce9 a0 a1 = some r) : Does G if_ce9 ks_ce9 (c_ce9.args (a0, a1)) [] (c_ce9.ans (a0, a1) r) := by
 refine does_pn (L := [(0, .agg [.v (.int .i64 a0.kind), .ro (List.map ePt a0.pts)]), (1, .agg [.v (.int .i64 a1.kind), .ro (List.map ePt a1.pts)])]) (fun bs => pin) fun bs t o => ?_
 show vwp _ ib_ce9 _ _
 unfold ib_ce9
 refine w_ir ?_
 unfold gf_ce9 at h
 refine go ?_;intros
 refine s_split rfl (fun c => ?_) (fun c => ?_)
 ·replace h := itt h c
  rw [c]
  obtain ⟨x3, h4, h⟩ := bnd h
  refine go ?_;intros
  refine c_call (c := c_cx9) (a0.pts, a1.pts) H_cx9 h4 fun ch => ?_
  refine go ?_;intros
  cases h
  exact r_end
 replace h := itf h c
 rw [c]
 refine go ?_;intros
 cases h
 exact r_end
theorem d_df9 {G : Gam}  (a0 : (List Tag)) (a1 : (List Tag)) (r : Bool) (h : gf_df9 a0 a1 = some r) : Does G if_df9 ks_df9 (c_df9.args (a0, a1)) [] (c_df9.ans (a0, a1) r) := by
 refine does_pn (L := [(0, .ro (List.map eTag a0)), (1, .ro (List.map eTag a1))]) (fun bs => pin) fun bs t o => ?_
 show vwp _ ib_df9 _ _
 unfold ib_df9
 refine w_ir ?_
 unfold gf_df9 at h
 refine go ?_;intros
 refine w_cond rfl (fun c => ?_) (fun c => ?_)
 ·replace h := itt h (by first | exact c | (have c2 := c; simp only [List.length_map] at c2; exact c2))
  try rw [c]
  refine go ?_;intros
  cases h
  exact r_end
 replace h := itf h (by first | exact c | (have c2 := c; simp only [List.length_map] at c2; exact c2))
 try rw [c]
 obtain ⟨hf24, h⟩ := gd h
 obtain ⟨q14, h27, h⟩ := bnd h
 refine go ?_;intros
 refine w_last (fun t o => ∃ q14_, q14 = .inr q14_ ∧ Pin t (ovr [] t) ∧ PinH o (ovh [] o)) ?_ ?_
 ·refine w_loop2 (fun n t o => ∃ l18 k16  , gl_df9_1 a1 l18 k16  = some q14 ∧ n = l18.length ∧ (a0).drop k16 = l18 ∧ Pin t (ovr [(0, .ro (List.map eTag a0)), (1, .ro (List.map eTag a1)), (5, .v (.int .i64 (k16 : Int)))] t) ∧ PinH o (ovh [] o)) _ ⟨_, _, h27, rfl, rfl, pin, pinh⟩ ?_
  rintro n t o ⟨l18, k16, h27, rfl, hd19, pq1, pq2⟩
  refine pinned pq1 pq2 ?_
  cases l18 with
  | nil =>
   have hge21 := drop_ge hd19
   rw [gl_df9_1] at h27
   refine go ?_;intros
   rw [hge21]
   refine go ?_;intros
   cases h27
   exact k_cn ⟨_, rfl, pin, pinh⟩
  | cons x17 l18 =>
   have hlt20 := drop_lt hd19
   have hx22 := drop_ix hd19
   have hw23 := drop_wr hd19 hf24
   rw [gl_df9_1] at h27
   refine go ?_;intros
   rw [hlt20]
   refine go ?_;intros
   refine r_iro rfl rfl hx22 rfl ?_
   obtain ⟨x25, h26, h27⟩ := bnd h27
   refine go ?_;intros
   refine r_iro rfl rfl h26 rfl ?_
   refine go ?_;intros
   refine w_cond rfl (fun c => ?_) (fun c => ?_)
   ·replace h27 := itt h27 c
    try rw [c]
    refine go ?_;intros
    cases h27
    replace h : some _ = some _ := h
    cases h
    exact r_end
   replace h27 := itf h27 c
   try rw [c]
   refine go ?_;intros
   rw [hw23]
   exact k_ln2 _ (Nat.lt_succ_self _) ⟨_, _, h27, rfl, drop_next hd19, pin, pinh⟩
 rintro t o ⟨q14, rfl, pq1, pq2⟩
 refine pinnedQ pq1 pq2 ?_
 refine go ?_;intros
 cases h
 exact r_end
theorem d_bx9 {G : Gam} (H_ce9 : Has G c_ce9) (H_df9 : Has G c_df9) (a0 : Feat) (a1 : Feat) (r : Bool) (h : gf_bx9 a0 a1 = some r) : Does G if_bx9 ks_bx9 (c_bx9.args (a0, a1)) [] (c_bx9.ans (a0, a1) r) := by
 refine does_pn (L := [(0, .agg [.v (.string a0.id), .v (.int .i64 a0.shape.kind), .ro (List.map ePt a0.shape.pts), .ro (List.map eTag a0.tags)]), (1, .agg [.v (.string a1.id), .v (.int .i64 a1.shape.kind), .ro (List.map ePt a1.shape.pts), .ro (List.map eTag a1.tags)])]) (fun bs => pin) fun bs t o => ?_
 show vwp _ ib_bx9 _ _
 unfold ib_bx9
 refine w_ir ?_
 unfold gf_bx9 at h
 refine go ?_;intros
 refine s_split rfl (fun c => ?_) (fun c => ?_)
 ·replace h := itt h c
  rw [c]
  obtain ⟨x3, h4, h⟩ := bnd h
  refine go ?_;intros
  refine c_call (c := c_ce9) (a0.shape, a1.shape) H_ce9 h4 fun ch => ?_
  refine go ?_;intros
  refine s_split rfl (fun c => ?_) (fun c => ?_)
  ·replace h := itt h c
   rw [c]
   obtain ⟨x5, h6, h⟩ := bnd h
   refine go ?_;intros
   refine c_call (c := c_df9) (a0.tags, a1.tags) H_df9 h6 fun ch => ?_
   refine go ?_;intros
   cases h
   exact r_end
  replace h := itf h c
  rw [c]
  refine go ?_;intros
  cases h
  exact r_end
 replace h := itf h c
 rw [c]
 refine go ?_;intros
 cases h
 exact r_end
theorem d_dy9 {G : Gam}  (a0 : (List Int)) (a1 : (List Int)) (r : Bool) (h : gf_dy9 a0 a1 = some r) : Does G if_dy9 ks_dy9 (c_dy9.args (a0, a1)) [] (c_dy9.ans (a0, a1) r) := by
 refine does_pn (L := [(0, .ro (List.map eInt a0)), (1, .ro (List.map eInt a1))]) (fun bs => pin) fun bs t o => ?_
 show vwp _ ib_dy9 _ _
 unfold ib_dy9
 refine w_ir ?_
 unfold gf_dy9 at h
 refine go ?_;intros
 refine w_cond rfl (fun c => ?_) (fun c => ?_)
 ·replace h := itt h (by first | exact c | (have c2 := c; simp only [List.length_map] at c2; exact c2))
  try rw [c]
  refine go ?_;intros
  cases h
  exact r_end
 replace h := itf h (by first | exact c | (have c2 := c; simp only [List.length_map] at c2; exact c2))
 try rw [c]
 obtain ⟨hf24, h⟩ := gd h
 obtain ⟨q14, h27, h⟩ := bnd h
 refine go ?_;intros
 refine w_last (fun t o => ∃ q14_, q14 = .inr q14_ ∧ Pin t (ovr [] t) ∧ PinH o (ovh [] o)) ?_ ?_
 ·refine w_loop2 (fun n t o => ∃ l18 k16  , gl_dy9_1 a1 l18 k16  = some q14 ∧ n = l18.length ∧ (a0).drop k16 = l18 ∧ Pin t (ovr [(0, .ro (List.map eInt a0)), (1, .ro (List.map eInt a1)), (5, .v (.int .i64 (k16 : Int)))] t) ∧ PinH o (ovh [] o)) _ ⟨_, _, h27, rfl, rfl, pin, pinh⟩ ?_
  rintro n t o ⟨l18, k16, h27, rfl, hd19, pq1, pq2⟩
  refine pinned pq1 pq2 ?_
  cases l18 with
  | nil =>
   have hge21 := drop_ge hd19
   rw [gl_dy9_1] at h27
   refine go ?_;intros
   rw [hge21]
   refine go ?_;intros
   cases h27
   exact k_cn ⟨_, rfl, pin, pinh⟩
  | cons x17 l18 =>
   have hlt20 := drop_lt hd19
   have hx22 := drop_ix hd19
   have hw23 := drop_wr hd19 hf24
   rw [gl_dy9_1] at h27
   refine go ?_;intros
   rw [hlt20]
   refine go ?_;intros
   refine r_iro rfl rfl hx22 rfl ?_
   obtain ⟨x25, h26, h27⟩ := bnd h27
   refine go ?_;intros
   refine r_iro rfl rfl h26 rfl ?_
   refine go ?_;intros
   refine w_cond rfl (fun c => ?_) (fun c => ?_)
   ·replace h27 := itt h27 c
    try rw [c]
    refine go ?_;intros
    cases h27
    replace h : some _ = some _ := h
    cases h
    exact r_end
   replace h27 := itf h27 c
   try rw [c]
   refine go ?_;intros
   rw [hw23]
   exact k_ln2 _ (Nat.lt_succ_self _) ⟨_, _, h27, rfl, drop_next hd19, pin, pinh⟩
 rintro t o ⟨q14, rfl, pq1, pq2⟩
 refine pinnedQ pq1 pq2 ?_
 refine go ?_;intros
 cases h
 exact r_end
theorem d_cg9 {G : Gam} (H_bx9 : Has G c_bx9) (a0 : (List Feat)) (a1 : (List Feat)) (r : Bool) (h : gf_cg9 a0 a1 = some r) : Does G if_cg9 ks_cg9 (c_cg9.args (a0, a1)) [] (c_cg9.ans (a0, a1) r) := by
 refine does_pn (L := [(0, .ro (List.map (eFeat false) a0)), (1, .ro (List.map (eFeat false) a1))]) (fun bs => pin) fun bs t o => ?_
 show vwp _ ib_cg9 _ _
 unfold ib_cg9
 refine w_ir ?_
 unfold gf_cg9 at h
 refine go ?_;intros
 refine w_cond rfl (fun c => ?_) (fun c => ?_)
 ·replace h := itt h (by first | exact c | (have c2 := c; simp only [List.length_map] at c2; exact c2))
  try rw [c]
  refine go ?_;intros
  cases h
  exact r_end
 replace h := itf h (by first | exact c | (have c2 := c; simp only [List.length_map] at c2; exact c2))
 try rw [c]
 obtain ⟨hf30, h⟩ := gd h
 obtain ⟨q20, h35, h⟩ := bnd h
 refine go ?_;intros
 refine w_last (fun t o => ∃ q20_, q20 = .inr q20_ ∧ Pin t (ovr [] t) ∧ PinH o (ovh [] o)) ?_ ?_
 ·refine w_loop2 (fun n t o => ∃ l24 k22  , gl_cg9_1 a1 l24 k22  = some q20 ∧ n = l24.length ∧ (a0).drop k22 = l24 ∧ Pin t (ovr [(0, .ro (List.map (eFeat false) a0)), (1, .ro (List.map (eFeat false) a1)), (5, .v (.int .i64 (k22 : Int)))] t) ∧ PinH o (ovh [] o)) _ ⟨_, _, h35, rfl, rfl, pin, pinh⟩ ?_
  rintro n t o ⟨l24, k22, h35, rfl, hd25, pq1, pq2⟩
  refine pinned pq1 pq2 ?_
  cases l24 with
  | nil =>
   have hge27 := drop_ge hd25
   rw [gl_cg9_1] at h35
   refine go ?_;intros
   rw [hge27]
   refine go ?_;intros
   cases h35
   exact k_cn ⟨_, rfl, pin, pinh⟩
  | cons x23 l24 =>
   have hlt26 := drop_lt hd25
   have hx28 := drop_ix hd25
   have hw29 := drop_wr hd25 hf30
   rw [gl_cg9_1] at h35
   refine go ?_;intros
   rw [hlt26]
   refine go ?_;intros
   refine r_iro rfl rfl hx28 rfl ?_
   obtain ⟨x31, h32, h35⟩ := bnd h35
   refine go ?_;intros
   refine r_iro rfl rfl h32 rfl ?_
   obtain ⟨x33, h34, h35⟩ := bnd h35
   refine go ?_;intros
   refine c_call (c := c_bx9) (x23, x31) H_bx9 h34 fun ch => ?_
   refine go ?_;intros
   refine w_cond rfl (fun c => ?_) (fun c => ?_)
   ·replace h35 := itt h35 c
    try rw [c]
    refine go ?_;intros
    cases h35
    replace h : some _ = some _ := h
    cases h
    exact r_end
   replace h35 := itf h35 c
   try rw [c]
   refine go ?_;intros
   rw [hw29]
   exact k_ln2 _ (Nat.lt_succ_self _) ⟨_, _, h35, rfl, drop_next hd25, pin, pinh⟩
 rintro t o ⟨q20, rfl, pq1, pq2⟩
 refine pinnedQ pq1 pq2 ?_
 refine go ?_;intros
 cases h
 exact r_end
theorem d_ee9 {G : Gam} (H_dy9 : Has G c_dy9) (H_cg9 : Has G c_cg9) (a0 : Commit) (a1 : Commit) (r : Bool) (h : gf_ee9 a0 a1 = some r) : Does G if_ee9 ks_ee9 (c_ee9.args (a0, a1)) [] (c_ee9.ans (a0, a1) r) := by
 refine does_pn (L := [(0, .agg [.ro (List.map eInt a0.up), .ro (List.map (eFeat false) a0.sheet), .v (.string a0.note)]), (1, .agg [.ro (List.map eInt a1.up), .ro (List.map (eFeat false) a1.sheet), .v (.string a1.note)])]) (fun bs => pin) fun bs t o => ?_
 show vwp _ ib_ee9 _ _
 unfold ib_ee9
 refine w_ir ?_
 unfold gf_ee9 at h
 obtain ⟨x3, h4, h⟩ := bnd h
 refine go ?_;intros
 refine c_call (c := c_dy9) (a0.up, a1.up) H_dy9 h4 fun ch => ?_
 refine go ?_;intros
 refine s_split rfl (fun c => ?_) (fun c => ?_)
 ·replace h := itt h c
  rw [c]
  obtain ⟨x5, h6, h⟩ := bnd h
  refine go ?_;intros
  refine c_call (c := c_cg9) (a0.sheet, a1.sheet) H_cg9 h6 fun ch => ?_
  refine go ?_;intros
  refine s_split rfl (fun c => ?_) (fun c => ?_)
  ·replace h := itt h c
   rw [c]
   refine go ?_;intros
   cases h
   exact r_end
  replace h := itf h c
  rw [c]
  refine go ?_;intros
  cases h
  exact r_end
 replace h := itf h c
 rw [c]
 refine go ?_;intros
 cases h
 exact r_end
theorem d_ef9 {G : Gam}  (a0 : (List Int)) (a1 : Int) (r : Bool) (h : gf_ef9 a0 a1 = some r) : Does G if_ef9 ks_ef9 (c_ef9.args (a0, a1)) [] (c_ef9.ans (a0, a1) r) := by
 refine does_pn (L := [(0, .ro (List.map eInt a0)), (1, .v (.int .i64 a1))]) (fun bs => pin) fun bs t o => ?_
 show vwp _ ib_ef9 _ _
 unfold ib_ef9
 refine w_ir ?_
 unfold gf_ef9 at h
 obtain ⟨hf18, h⟩ := gd h
 obtain ⟨q8, h23, h⟩ := bnd h
 refine go ?_;intros
 refine w_last (fun t o => ∃ q8_, q8 = .inr q8_ ∧ Pin t (ovr [(0, .ro (List.map eInt a0)), (1, .v (.int .i64 a1))] t) ∧ PinH o (ovh [] o)) ?_ ?_
 ·refine w_loop2 (fun n t o => ∃ l12 k10  , gl_ef9_1 a1 l12 k10  = some q8 ∧ n = l12.length ∧ (a0).drop k10 = l12 ∧ Pin t (ovr [(0, .ro (List.map eInt a0)), (1, .v (.int .i64 a1)), (5, .v (.int .i64 (k10 : Int)))] t) ∧ PinH o (ovh [] o)) _ ⟨_, _, h23, rfl, rfl, pin, pinh⟩ ?_
  rintro n t o ⟨l12, k10, h23, rfl, hd13, pq1, pq2⟩
  refine pinned pq1 pq2 ?_
  cases l12 with
  | nil =>
   have hge15 := drop_ge hd13
   rw [gl_ef9_1] at h23
   refine go ?_;intros
   rw [hge15]
   refine go ?_;intros
   cases h23
   exact k_cn ⟨_, rfl, pin, pinh⟩
  | cons x11 l12 =>
   have hlt14 := drop_lt hd13
   have hx16 := drop_ix hd13
   have hw17 := drop_wr hd13 hf18
   rw [gl_ef9_1] at h23
   refine go ?_;intros
   rw [hlt14]
   refine go ?_;intros
   refine r_iro rfl rfl hx16 rfl ?_
   refine go ?_;intros
   refine s_split rfl (fun c => ?_) (fun c => ?_)
   ·replace h23 := itt h23 c
    rw [c]
    refine go ?_;intros
    cases h23
    replace h : some _ = some _ := h
    cases h
    exact r_end
   replace h23 := itf h23 c
   rw [c]
   refine go ?_;intros
   refine r_iro rfl rfl hx16 rfl ?_
   refine go ?_;intros
   refine w_cond rfl (fun c => ?_) (fun c => ?_)
   ·replace h23 := itt h23 c
    try rw [c]
    refine go ?_;intros
    cases h23
    replace h : some _ = some _ := h
    cases h
    exact r_end
   replace h23 := itf h23 c
   try rw [c]
   refine go ?_;intros
   rw [hw17]
   exact k_ln2 _ (Nat.lt_succ_self _) ⟨_, _, h23, rfl, drop_next hd13, pin, pinh⟩
 rintro t o ⟨q8, rfl, pq1, pq2⟩
 refine pinnedQ pq1 pq2 ?_
 refine go ?_;intros
 refine s_split rfl (fun c => ?_) (fun c => ?_)
 ·replace h := itt h (by first | exact c | (have c2 := c; simp only [List.length_map] at c2; exact c2))
  rw [c]
  refine go ?_;intros
  refine s_split rfl (fun c => ?_) (fun c => ?_)
  ·replace h := itt h (by first | exact c | (have c2 := c; simp only [List.length_map] at c2; exact c2))
   rw [c]
   refine go ?_;intros
   refine s_split rfl (fun c => ?_) (fun c => ?_)
   ·replace h := itt h (by first | exact c | (have c2 := c; simp only [List.length_map] at c2; exact c2))
    rw [c]
    refine go ?_;intros
    cases h
    exact r_end
   replace h := itf h (by first | exact c | (have c2 := c; simp only [List.length_map] at c2; exact c2))
   rw [c]
   obtain ⟨x19, h20, h⟩ := bnd h
   refine go ?_;intros
   refine r_iro rfl rfl h20 rfl ?_
   obtain ⟨x21, h22, h⟩ := bnd h
   refine go ?_;intros
   refine r_iro rfl rfl h22 rfl ?_
   refine go ?_;intros
   cases h
   exact r_end
  replace h := itf h (by first | exact c | (have c2 := c; simp only [List.length_map] at c2; exact c2))
  rw [c]
  refine go ?_;intros
  cases h
  exact r_end
 replace h := itf h (by first | exact c | (have c2 := c; simp only [List.length_map] at c2; exact c2))
 rw [c]
 refine go ?_;intros
 cases h
 exact r_end
end Go.Proofs.AM
