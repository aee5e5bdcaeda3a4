/- Lemmas of the proof (KHF0), on an abstract machine. Conditions: none. -/
import Derived.Test.YtknajiljcemblaaGreatKHD
set_option linter.unusedVariables false
set_option linter.unusedSimpArgs false
set_option maxRecDepth 100000
set_option maxHeartbeats 4000000
namespace Go.Proofs.AM
attribute [local irreducible] vwp vstps vstpLs vstp vdo vret kseq kblk kloop kend kcut kloop2 frzV renV shutK pfzV trnV unrV
theorem d_cq9 {G : Gam}  (a0 : Int) (r : Bool) (h : gf_cq9 a0 = some r) : Does G if_cq9 ks_cq9 (c_cq9.args (a0)) [] (c_cq9.ans (a0) r) := by
 refine does_pn (L := [(0, .v (.int .i64 a0))]) (fun bs => pin) fun bs t o => ?_
 show vwp _ ib_cq9 _ _
 unfold ib_cq9
 refine w_ir ?_
 unfold gf_cq9 at h
 refine go ?_;intros
 refine s_split rfl (fun c => ?_) (fun c => ?_)
 ·replace h := itt h c
  rw [c]
  refine go ?_;intros
  cases h
  exact r_end
 replace h := itf h c
 rw [c]
 refine go ?_;intros
 cases h
 exact r_end
theorem d_cs9 {G : Gam} (H_cq9 : Has G c_cq9) (a0 : (List Pt)) (r : Bool) (h : gf_cs9 a0 = some r) : Does G if_cs9 ks_cs9 (c_cs9.args (a0)) [] (c_cs9.ans (a0) r) := by
 refine does_pn (L := [(0, .ro (List.map ePt a0))]) (fun bs => pin) fun bs t o => ?_
 show vwp _ ib_cs9 _ _
 unfold ib_cs9
 refine w_ir ?_
 unfold gf_cs9 at h
 obtain ⟨hf34, h⟩ := gd h
 obtain ⟨q24, h41, h⟩ := bnd h
 refine go ?_;intros
 refine w_last (fun t o => ∃ q24_, q24 = .inr q24_ ∧ Pin t (ovr [(0, .ro (List.map ePt a0))] t) ∧ PinH o (ovh [] o)) ?_ ?_
 ·refine w_loop2 (fun n t o => ∃ l28 k26  , gl_cs9_1 a0 l28 k26  = some q24 ∧ n = l28.length ∧ (a0).drop k26 = l28 ∧ Pin t (ovr [(0, .ro (List.map ePt a0)), (3, .v (.int .i64 (k26 : Int)))] t) ∧ PinH o (ovh [] o)) _ ⟨_, _, h41, rfl, rfl, pin, pinh⟩ ?_
  rintro n t o ⟨l28, k26, h41, rfl, hd29, pq1, pq2⟩
  refine pinned pq1 pq2 ?_
  cases l28 with
  | nil =>
   have hge31 := drop_ge hd29
   rw [gl_cs9_1] at h41
   refine go ?_;intros
   rw [hge31]
   refine go ?_;intros
   cases h41
   exact k_cn ⟨_, rfl, pin, pinh⟩
  | cons x27 l28 =>
   have hlt30 := drop_lt hd29
   have hx32 := drop_ix hd29
   have hw33 := drop_wr hd29 hf34
   rw [gl_cs9_1] at h41
   refine go ?_;intros
   rw [hlt30]
   refine go ?_;intros
   refine r_iro rfl rfl hx32 rfl ?_
   obtain ⟨x35, h36, h41⟩ := bnd h41
   refine go ?_;intros
   refine c_call (c := c_cq9) (x27.x) H_cq9 h36 fun ch => ?_
   refine go ?_;intros
   refine s_split rfl (fun c => ?_) (fun c => ?_)
   ·replace h41 := itt h41 c
    rw [c]
    refine go ?_;intros
    cases h41
    replace h : some _ = some _ := h
    cases h
    exact r_end
   replace h41 := itf h41 c
   rw [c]
   refine go ?_;intros
   refine r_iro rfl rfl hx32 rfl ?_
   obtain ⟨x37, h38, h41⟩ := bnd h41
   refine go ?_;intros
   refine c_call (c := c_cq9) (x27.y) H_cq9 h38 fun ch => ?_
   refine go ?_;intros
   refine s_split rfl (fun c => ?_) (fun c => ?_)
   ·replace h41 := itt h41 c
    rw [c]
    refine go ?_;intros
    cases h41
    replace h : some _ = some _ := h
    cases h
    exact r_end
   replace h41 := itf h41 c
   rw [c]
   refine go ?_;intros
   refine s_split rfl (fun c => ?_) (fun c => ?_)
   ·replace h41 := itt h41 c
    rw [c]
    refine go ?_;intros
    refine r_iro rfl rfl hx32 rfl ?_
    obtain ⟨x39, h40, h41⟩ := bnd h41
    refine go ?_;intros
    refine r_iro rfl rfl h40 rfl ?_
    refine go ?_;intros
    refine w_cond rfl (fun c => ?_) (fun c => ?_)
    ·replace h41 := itt h41 c
     try rw [c]
     refine go ?_;intros
     cases h41
     replace h : some _ = some _ := h
     cases h
     exact r_end
    replace h41 := itf h41 c
    try rw [c]
    refine go ?_;intros
    rw [hw33]
    exact k_ln2 _ (Nat.lt_succ_self _) ⟨_, _, h41, rfl, drop_next hd29, pin, pinh⟩
   replace h41 := itf h41 c
   rw [c]
   refine go ?_;intros
   rw [hw33]
   exact k_ln2 _ (Nat.lt_succ_self _) ⟨_, _, h41, rfl, drop_next hd29, pin, pinh⟩
 rintro t o ⟨q24, rfl, pq1, pq2⟩
 refine pinnedQ pq1 pq2 ?_
 refine go ?_;intros
 cases h
 exact r_end
theorem d_cf9 {G : Gam}  (a0 : Str) (r : Bool) (h : gf_cf9 a0 = some r) : Does G if_cf9 ks_cf9 (c_cf9.args (a0)) [] (c_cf9.ans (a0) r) := by
 refine does_pn (L := [(0, .v (.string a0))]) (fun bs => pin) fun bs t o => ?_
 show vwp _ ib_cf9 _ _
 unfold ib_cf9
 refine w_ir ?_
 unfold gf_cf9 at h
 obtain ⟨hf18, h⟩ := gd h
 obtain ⟨q8, h19, h⟩ := bnd h
 refine go ?_;intros
 refine w_last (fun t o => ∃ q8_, q8 = .inr q8_ ∧ Pin t (ovr [(0, .v (.string a0))] t) ∧ PinH o (ovh [] o)) ?_ ?_
 ·refine w_loop2 (fun n t o => ∃ l12 k10  , gl_cf9_1 l12 k10  = some q8 ∧ n = l12.length ∧ (a0.data.toList).drop k10 = l12 ∧ Pin t (ovr [(0, .v (.string a0)), (3, .v (.int .i64 (k10 : Int)))] t) ∧ PinH o (ovh [] o)) _ ⟨_, _, h19, rfl, rfl, pin, pinh⟩ ?_
  rintro n t o ⟨l12, k10, h19, rfl, hd13, pq1, pq2⟩
  refine pinned pq1 pq2 ?_
  cases l12 with
  | nil =>
   have hge15 := drop_geB hd13
   rw [gl_cf9_1] at h19
   refine go ?_;intros
   rw [hge15]
   refine go ?_;intros
   cases h19
   exact k_cn ⟨_, rfl, pin, pinh⟩
  | cons x11 l12 =>
   have hlt14 := drop_ltB hd13
   have hx16 := drop_ixB hd13
   have hw17 := drop_wrB hd13 hf18
   rw [gl_cf9_1] at h19
   refine go ?_;intros
   rw [hlt14]
   refine go ?_;intros
   refine r_sidx rfl rfl hx16 ?_
   refine go ?_;intros
   refine s_split rfl (fun c => ?_) (fun c => ?_)
   ·replace h19 := itt h19 c
    rw [c]
    refine go ?_;intros
    cases h19
    replace h : some _ = some _ := h
    cases h
    exact r_end
   replace h19 := itf h19 c
   rw [c]
   refine go ?_;intros
   refine r_sidx rfl rfl hx16 ?_
   refine go ?_;intros
   refine w_cond rfl (fun c => ?_) (fun c => ?_)
   ·replace h19 := itt h19 c
    try rw [c]
    refine go ?_;intros
    cases h19
    replace h : some _ = some _ := h
    cases h
    exact r_end
   replace h19 := itf h19 c
   try rw [c]
   refine go ?_;intros
   rw [hw17]
   exact k_ln2 _ (Nat.lt_succ_self _) ⟨_, _, h19, rfl, drop_next hd13, pin, pinh⟩
 rintro t o ⟨q8, rfl, pq1, pq2⟩
 refine pinnedQ pq1 pq2 ?_
 refine go ?_;intros
 refine s_split rfl (fun c => ?_) (fun c => ?_)
 ·replace h := itt h c
  rw [c]
  refine go ?_;intros
  cases h
  exact r_end
 replace h := itf h c
 rw [c]
 refine go ?_;intros
 cases h
 exact r_end
theorem d_ca9 {G : Gam} (H_cs9 : Has G c_cs9) (a0 : Shape) (r : Bool) (h : gf_ca9 a0 = some r) : Does G if_ca9 ks_ca9 (c_ca9.args (a0)) [] (c_ca9.ans (a0) r) := by
 refine does_pn (L := [(0, .agg [.v (.int .i64 a0.kind), .ro (List.map ePt a0.pts)])]) (fun bs => pin) fun bs t o => ?_
 show vwp _ ib_ca9 _ _
 unfold ib_ca9
 refine w_ir ?_
 unfold gf_ca9 at h
 obtain ⟨x2, h3, h⟩ := bnd h
 refine go ?_;intros
 refine c_call (c := c_cs9) (a0.pts) H_cs9 h3 fun ch => ?_
 refine go ?_;intros
 refine w_cond rfl (fun c => ?_) (fun c => ?_)
 ·replace h := itt h c
  try rw [c]
  refine go ?_;intros
  cases h
  exact r_end
 replace h := itf h c
 try rw [c]
 refine go ?_;intros
 refine w_cond rfl (fun c => ?_) (fun c => ?_)
 ·replace h := itt h c
  try rw [c]
  refine go ?_;intros
  cases h
  exact r_end
 replace h := itf h c
 try rw [c]
 refine go ?_;intros
 refine w_cond rfl (fun c => ?_) (fun c => ?_)
 ·replace h := itt h c
  try rw [c]
  refine go ?_;intros
  cases h
  exact r_end
 replace h := itf h c
 try rw [c]
 refine go ?_;intros
 refine w_cond rfl (fun c => ?_) (fun c => ?_)
 ·replace h := itt h c
  try rw [c]
  refine go ?_;intros
  refine s_split rfl (fun c => ?_) (fun c => ?_)
  ·replace h := itt h (by first | exact c | (have c2 := c; simp only [List.length_map] at c2; exact c2))
   rw [c]
   obtain ⟨x4, h5, h⟩ := bnd h
   refine go ?_;intros
   refine r_iro rfl rfl h5 rfl ?_
   obtain ⟨x6, h7, h⟩ := bnd h
   refine go ?_;intros
   refine r_iro rfl rfl h7 rfl ?_
   refine go ?_;intros
   cases h
   exact r_end
  replace h := itf h (by first | exact c | (have c2 := c; simp only [List.length_map] at c2; exact c2))
  rw [c]
  refine go ?_;intros
  cases h
  exact r_end
 replace h := itf h c
 try rw [c]
 refine go ?_;intros
 cases h
 exact r_end
theorem d_dc9 {G : Gam} (H_cf9 : Has G c_cf9) (a0 : (List Tag)) (r : Bool) (h : gf_dc9 a0 = some r) : Does G if_dc9 ks_dc9 (c_dc9.args (a0)) [] (c_dc9.ans (a0) r) := by
 refine does_pn (L := [(0, .ro (List.map eTag a0))]) (fun bs => pin) fun bs t o => ?_
 show vwp _ ib_dc9 _ _
 unfold ib_dc9
 refine w_ir ?_
 unfold gf_dc9 at h
 obtain ⟨hf34, h⟩ := gd h
 obtain ⟨q24, h41, h⟩ := bnd h
 refine go ?_;intros
 refine w_last (fun t o => ∃ q24_, q24 = .inr q24_ ∧ Pin t (ovr [(0, .ro (List.map eTag a0))] t) ∧ PinH o (ovh [] o)) ?_ ?_
 ·refine w_loop2 (fun n t o => ∃ l28 k26  , gl_dc9_1 a0 l28 k26  = some q24 ∧ n = l28.length ∧ (a0).drop k26 = l28 ∧ Pin t (ovr [(0, .ro (List.map eTag a0)), (3, .v (.int .i64 (k26 : Int)))] t) ∧ PinH o (ovh [] o)) _ ⟨_, _, h41, rfl, rfl, pin, pinh⟩ ?_
  rintro n t o ⟨l28, k26, h41, rfl, hd29, pq1, pq2⟩
  refine pinned pq1 pq2 ?_
  cases l28 with
  | nil =>
   have hge31 := drop_ge hd29
   rw [gl_dc9_1] at h41
   refine go ?_;intros
   rw [hge31]
   refine go ?_;intros
   cases h41
   exact k_cn ⟨_, rfl, pin, pinh⟩
  | cons x27 l28 =>
   have hlt30 := drop_lt hd29
   have hx32 := drop_ix hd29
   have hw33 := drop_wr hd29 hf34
   rw [gl_dc9_1] at h41
   refine go ?_;intros
   rw [hlt30]
   refine go ?_;intros
   refine r_iro rfl rfl hx32 rfl ?_
   obtain ⟨x35, h36, h41⟩ := bnd h41
   refine go ?_;intros
   refine c_call (c := c_cf9) (x27.key) H_cf9 h36 fun ch => ?_
   refine go ?_;intros
   refine s_split rfl (fun c => ?_) (fun c => ?_)
   ·replace h41 := itt h41 c
    rw [c]
    refine go ?_;intros
    cases h41
    replace h : some _ = some _ := h
    cases h
    exact r_end
   replace h41 := itf h41 c
   rw [c]
   refine go ?_;intros
   refine r_iro rfl rfl hx32 rfl ?_
   obtain ⟨x37, h38, h41⟩ := bnd h41
   refine go ?_;intros
   refine c_call (c := c_cf9) (x27.val) H_cf9 h38 fun ch => ?_
   refine go ?_;intros
   refine s_split rfl (fun c => ?_) (fun c => ?_)
   ·replace h41 := itt h41 c
    rw [c]
    refine go ?_;intros
    cases h41
    replace h : some _ = some _ := h
    cases h
    exact r_end
   replace h41 := itf h41 c
   rw [c]
   refine go ?_;intros
   refine s_split rfl (fun c => ?_) (fun c => ?_)
   ·replace h41 := itt h41 c
    rw [c]
    refine go ?_;intros
    refine r_iro rfl rfl hx32 rfl ?_
    obtain ⟨x39, h40, h41⟩ := bnd h41
    refine go ?_;intros
    refine r_iro rfl rfl h40 rfl ?_
    refine go ?_;intros
    refine w_cond rfl (fun c => ?_) (fun c => ?_)
    ·replace h41 := itt h41 c
     try rw [c]
     refine go ?_;intros
     cases h41
     replace h : some _ = some _ := h
     cases h
     exact r_end
    replace h41 := itf h41 c
    try rw [c]
    refine go ?_;intros
    rw [hw33]
    exact k_ln2 _ (Nat.lt_succ_self _) ⟨_, _, h41, rfl, drop_next hd29, pin, pinh⟩
   replace h41 := itf h41 c
   rw [c]
   refine go ?_;intros
   rw [hw33]
   exact k_ln2 _ (Nat.lt_succ_self _) ⟨_, _, h41, rfl, drop_next hd29, pin, pinh⟩
 rintro t o ⟨q24, rfl, pq1, pq2⟩
 refine pinnedQ pq1 pq2 ?_
 refine go ?_;intros
 cases h
 exact r_end
theorem d_bu9 {G : Gam} (H_cf9 : Has G c_cf9) (H_ca9 : Has G c_ca9) (H_dc9 : Has G c_dc9) (a0 : Feat) (r : Bool) (h : gf_bu9 a0 = some r) : Does G if_bu9 ks_bu9 (c_bu9.args (a0)) [] (c_bu9.ans (a0) r) := by
 refine does_pn (L := [(0, .agg [.v (.string a0.id), .v (.int .i64 a0.shape.kind), .ro (List.map ePt a0.shape.pts), .ro (List.map eTag a0.tags)])]) (fun bs => pin) fun bs t o => ?_
 show vwp _ ib_bu9 _ _
 unfold ib_bu9
 refine w_ir ?_
 unfold gf_bu9 at h
 obtain ⟨x2, h3, h⟩ := bnd h
 refine go ?_;intros
 refine c_call (c := c_cf9) (a0.id) H_cf9 h3 fun ch => ?_
 refine go ?_;intros
 refine s_split rfl (fun c => ?_) (fun c => ?_)
 ·replace h := itt h c
  rw [c]
  obtain ⟨x4, h5, h⟩ := bnd h
  refine go ?_;intros
  refine c_call (c := c_ca9) (a0.shape) H_ca9 h5 fun ch => ?_
  refine go ?_;intros
  refine s_split rfl (fun c => ?_) (fun c => ?_)
  ·replace h := itt h c
   rw [c]
   obtain ⟨x6, h7, h⟩ := bnd h
   refine go ?_;intros
   refine c_call (c := c_dc9) (a0.tags) H_dc9 h7 fun ch => ?_
   refine go ?_;intros
   cases h
   exact r_end
  replace h := itf h c
  rw [c]
  refine go ?_;intros
  cases h
  exact r_end
 replace h := itf h c
 rw [c]
 refine go ?_;intros
 cases h
 exact r_end
theorem d_ct9 {G : Gam}  (a0 : (List Pt)) (a1 : (List Pt)) (r : Bool) (h : gf_ct9 a0 a1 = some r) : Does G if_ct9 ks_ct9 (c_ct9.args (a0, a1)) [] (c_ct9.ans (a0, a1) r) := by
 refine does_pn (L := [(0, .ro (List.map ePt a0)), (1, .ro (List.map ePt a1))]) (fun bs => pin) fun bs t o => ?_
 show vwp _ ib_ct9 _ _
 unfold ib_ct9
 refine w_ir ?_
 unfold gf_ct9 at h
 refine go ?_;intros
 refine w_cond rfl (fun c => ?_) (fun c => ?_)
 ·replace h := itt h (by first | exact c | (have c2 := c; simp only [List.length_map] at c2; exact c2))
  try rw [c]
  refine go ?_;intros
  cases h
  exact r_end
 replace h := itf h (by first | exact c | (have c2 := c; simp only [List.length_map] at c2; exact c2))
 try rw [c]
 obtain ⟨hf24, h⟩ := gd h
 obtain ⟨q14, h27, h⟩ := bnd h
 refine go ?_;intros
 refine w_last (fun t o => ∃ q14_, q14 = .inr q14_ ∧ Pin t (ovr [] t) ∧ PinH o (ovh [] o)) ?_ ?_
 ·refine w_loop2 (fun n t o => ∃ l18 k16  , gl_ct9_1 a1 l18 k16  = some q14 ∧ n = l18.length ∧ (a0).drop k16 = l18 ∧ Pin t (ovr [(0, .ro (List.map ePt a0)), (1, .ro (List.map ePt a1)), (5, .v (.int .i64 (k16 : Int)))] t) ∧ PinH o (ovh [] o)) _ ⟨_, _, h27, rfl, rfl, pin, pinh⟩ ?_
  rintro n t o ⟨l18, k16, h27, rfl, hd19, pq1, pq2⟩
  refine pinned pq1 pq2 ?_
  cases l18 with
  | nil =>
   have hge21 := drop_ge hd19
   rw [gl_ct9_1] at h27
   refine go ?_;intros
   rw [hge21]
   refine go ?_;intros
   cases h27
   exact k_cn ⟨_, rfl, pin, pinh⟩
  | cons x17 l18 =>
   have hlt20 := drop_lt hd19
   have hx22 := drop_ix hd19
   have hw23 := drop_wr hd19 hf24
   rw [gl_ct9_1] at h27
   refine go ?_;intros
   rw [hlt20]
   refine go ?_;intros
   refine r_iro rfl rfl hx22 rfl ?_
   obtain ⟨x25, h26, h27⟩ := bnd h27
   refine go ?_;intros
   refine r_iro rfl rfl h26 rfl ?_
   refine go ?_;intros
   refine w_cond rfl (fun c => ?_) (fun c => ?_)
   ·replace h27 := itt h27 c
    try rw [c]
    refine go ?_;intros
    cases h27
    replace h : some _ = some _ := h
    cases h
    exact r_end
   replace h27 := itf h27 c
   try rw [c]
   refine go ?_;intros
   rw [hw23]
   exact k_ln2 _ (Nat.lt_succ_self _) ⟨_, _, h27, rfl, drop_next hd19, pin, pinh⟩
 rintro t o ⟨q14, rfl, pq1, pq2⟩
 refine pinnedQ pq1 pq2 ?_
 refine go ?_;intros
 cases h
 exact r_end
theorem d_cb9 {G : Gam} (H_ct9 : Has G c_ct9) (a0 : Shape) (a1 : Shape) (r : Bool) (h : gf_cb9 a0 a1 = some r) : Does G if_cb9 ks_cb9 (c_cb9.args (a0, a1)) [] (c_cb9.ans (a0, a1) r) := by
 refine does_pn (L := [(0, .agg [.v (.int .i64 a0.kind), .ro (List.map ePt a0.pts)]), (1, .agg [.v (.int .i64 a1.kind), .ro (List.map ePt a1.pts)])]) (fun bs => pin) fun bs t o => ?_
 show vwp _ ib_cb9 _ _
 unfold ib_cb9
 refine w_ir ?_
 unfold gf_cb9 at h
 refine go ?_;intros
 refine s_split rfl (fun c => ?_) (fun c => ?_)
 ·replace h := itt h c
  rw [c]
  obtain ⟨x3, h4, h⟩ := bnd h
  refine go ?_;intros
  refine c_call (c := c_ct9) (a0.pts, a1.pts) H_ct9 h4 fun ch => ?_
  refine go ?_;intros
  cases h
  exact r_end
 replace h := itf h c
 rw [c]
 refine go ?_;intros
 cases h
 exact r_end
theorem d_db9 {G : Gam}  (a0 : (List Tag)) (a1 : (List Tag)) (r : Bool) (h : gf_db9 a0 a1 = some r) : Does G if_db9 ks_db9 (c_db9.args (a0, a1)) [] (c_db9.ans (a0, a1) r) := by
 refine does_pn (L := [(0, .ro (List.map eTag a0)), (1, .ro (List.map eTag a1))]) (fun bs => pin) fun bs t o => ?_
 show vwp _ ib_db9 _ _
 unfold ib_db9
 refine w_ir ?_
 unfold gf_db9 at h
 refine go ?_;intros
 refine w_cond rfl (fun c => ?_) (fun c => ?_)
 ·replace h := itt h (by first | exact c | (have c2 := c; simp only [List.length_map] at c2; exact c2))
  try rw [c]
  refine go ?_;intros
  cases h
  exact r_end
 replace h := itf h (by first | exact c | (have c2 := c; simp only [List.length_map] at c2; exact c2))
 try rw [c]
 obtain ⟨hf24, h⟩ := gd h
 obtain ⟨q14, h27, h⟩ := bnd h
 refine go ?_;intros
 refine w_last (fun t o => ∃ q14_, q14 = .inr q14_ ∧ Pin t (ovr [] t) ∧ PinH o (ovh [] o)) ?_ ?_
 ·refine w_loop2 (fun n t o => ∃ l18 k16  , gl_db9_1 a1 l18 k16  = some q14 ∧ n = l18.length ∧ (a0).drop k16 = l18 ∧ Pin t (ovr [(0, .ro (List.map eTag a0)), (1, .ro (List.map eTag a1)), (5, .v (.int .i64 (k16 : Int)))] t) ∧ PinH o (ovh [] o)) _ ⟨_, _, h27, rfl, rfl, pin, pinh⟩ ?_
  rintro n t o ⟨l18, k16, h27, rfl, hd19, pq1, pq2⟩
  refine pinned pq1 pq2 ?_
  cases l18 with
  | nil =>
   have hge21 := drop_ge hd19
   rw [gl_db9_1] at h27
   refine go ?_;intros
   rw [hge21]
   refine go ?_;intros
   cases h27
   exact k_cn ⟨_, rfl, pin, pinh⟩
  | cons x17 l18 =>
   have hlt20 := drop_lt hd19
   have hx22 := drop_ix hd19
   have hw23 := drop_wr hd19 hf24
   rw [gl_db9_1] at h27
   refine go ?_;intros
   rw [hlt20]
   refine go ?_;intros
   refine r_iro rfl rfl hx22 rfl ?_
   obtain ⟨x25, h26, h27⟩ := bnd h27
   refine go ?_;intros
   refine r_iro rfl rfl h26 rfl ?_
   refine go ?_;intros
   refine w_cond rfl (fun c => ?_) (fun c => ?_)
   ·replace h27 := itt h27 c
    try rw [c]
    refine go ?_;intros
    cases h27
    replace h : some _ = some _ := h
    cases h
    exact r_end
   replace h27 := itf h27 c
   try rw [c]
   refine go ?_;intros
   rw [hw23]
   exact k_ln2 _ (Nat.lt_succ_self _) ⟨_, _, h27, rfl, drop_next hd19, pin, pinh⟩
 rintro t o ⟨q14, rfl, pq1, pq2⟩
 refine pinnedQ pq1 pq2 ?_
 refine go ?_;intros
 cases h
 exact r_end
theorem d_bv9 {G : Gam} (H_cb9 : Has G c_cb9) (H_db9 : Has G c_db9) (a0 : Feat) (a1 : Feat) (r : Bool) (h : gf_bv9 a0 a1 = some r) : Does G if_bv9 ks_bv9 (c_bv9.args (a0, a1)) [] (c_bv9.ans (a0, a1) r) := by
 refine does_pn (L := [(0, .agg [.v (.string a0.id), .v (.int .i64 a0.shape.kind), .ro (List.map ePt a0.shape.pts), .ro (List.map eTag a0.tags)]), (1, .agg [.v (.string a1.id), .v (.int .i64 a1.shape.kind), .ro (List.map ePt a1.shape.pts), .ro (List.map eTag a1.tags)])]) (fun bs => pin) fun bs t o => ?_
 show vwp _ ib_bv9 _ _
 unfold ib_bv9
 refine w_ir ?_
 unfold gf_bv9 at h
 refine go ?_;intros
 refine s_split rfl (fun c => ?_) (fun c => ?_)
 ·replace h := itt h c
  rw [c]
  obtain ⟨x3, h4, h⟩ := bnd h
  refine go ?_;intros
  refine c_call (c := c_cb9) (a0.shape, a1.shape) H_cb9 h4 fun ch => ?_
  refine go ?_;intros
  refine s_split rfl (fun c => ?_) (fun c => ?_)
  ·replace h := itt h c
   rw [c]
   obtain ⟨x5, h6, h⟩ := bnd h
   refine go ?_;intros
   refine c_call (c := c_db9) (a0.tags, a1.tags) H_db9 h6 fun ch => ?_
   refine go ?_;intros
   cases h
   exact r_end
  replace h := itf h c
  rw [c]
  refine go ?_;intros
  cases h
  exact r_end
 replace h := itf h c
 rw [c]
 refine go ?_;intros
 cases h
 exact r_end
theorem d_dt9 {G : Gam}  (a0 : (List Int)) (a1 : (List Int)) (r : Bool) (h : gf_dt9 a0 a1 = some r) : Does G if_dt9 ks_dt9 (c_dt9.args (a0, a1)) [] (c_dt9.ans (a0, a1) r) := by
 refine does_pn (L := [(0, .ro (List.map eInt a0)), (1, .ro (List.map eInt a1))]) (fun bs => pin) fun bs t o => ?_
 show vwp _ ib_dt9 _ _
 unfold ib_dt9
 refine w_ir ?_
 unfold gf_dt9 at h
 refine go ?_;intros
 refine w_cond rfl (fun c => ?_) (fun c => ?_)
 ·replace h := itt h (by first | exact c | (have c2 := c; simp only [List.length_map] at c2; exact c2))
  try rw [c]
  refine go ?_;intros
  cases h
  exact r_end
 replace h := itf h (by first | exact c | (have c2 := c; simp only [List.length_map] at c2; exact c2))
 try rw [c]
 obtain ⟨hf24, h⟩ := gd h
 obtain ⟨q14, h27, h⟩ := bnd h
 refine go ?_;intros
 refine w_last (fun t o => ∃ q14_, q14 = .inr q14_ ∧ Pin t (ovr [] t) ∧ PinH o (ovh [] o)) ?_ ?_
 ·refine w_loop2 (fun n t o => ∃ l18 k16  , gl_dt9_1 a1 l18 k16  = some q14 ∧ n = l18.length ∧ (a0).drop k16 = l18 ∧ Pin t (ovr [(0, .ro (List.map eInt a0)), (1, .ro (List.map eInt a1)), (5, .v (.int .i64 (k16 : Int)))] t) ∧ PinH o (ovh [] o)) _ ⟨_, _, h27, rfl, rfl, pin, pinh⟩ ?_
  rintro n t o ⟨l18, k16, h27, rfl, hd19, pq1, pq2⟩
  refine pinned pq1 pq2 ?_
  cases l18 with
  | nil =>
   have hge21 := drop_ge hd19
   rw [gl_dt9_1] at h27
   refine go ?_;intros
   rw [hge21]
   refine go ?_;intros
   cases h27
   exact k_cn ⟨_, rfl, pin, pinh⟩
  | cons x17 l18 =>
   have hlt20 := drop_lt hd19
   have hx22 := drop_ix hd19
   have hw23 := drop_wr hd19 hf24
   rw [gl_dt9_1] at h27
   refine go ?_;intros
   rw [hlt20]
   refine go ?_;intros
   refine r_iro rfl rfl hx22 rfl ?_
   obtain ⟨x25, h26, h27⟩ := bnd h27
   refine go ?_;intros
   refine r_iro rfl rfl h26 rfl ?_
   refine go ?_;intros
   refine w_cond rfl (fun c => ?_) (fun c => ?_)
   ·replace h27 := itt h27 c
    try rw [c]
    refine go ?_;intros
    cases h27
    replace h : some _ = some _ := h
    cases h
    exact r_end
   replace h27 := itf h27 c
   try rw [c]
   refine go ?_;intros
   rw [hw23]
   exact k_ln2 _ (Nat.lt_succ_self _) ⟨_, _, h27, rfl, drop_next hd19, pin, pinh⟩
 rintro t o ⟨q14, rfl, pq1, pq2⟩
 refine pinnedQ pq1 pq2 ?_
 refine go ?_;intros
 cases h
 exact r_end
theorem d_cd9 {G : Gam} (H_bv9 : Has G c_bv9) (a0 : (List Feat)) (a1 : (List Feat)) (r : Bool) (h : gf_cd9 a0 a1 = some r) : Does G if_cd9 ks_cd9 (c_cd9.args (a0, a1)) [] (c_cd9.ans (a0, a1) r) := by
 refine does_pn (L := [(0, .ro (List.map (eFeat false) a0)), (1, .ro (List.map (eFeat false) a1))]) (fun bs => pin) fun bs t o => ?_
 show vwp _ ib_cd9 _ _
 unfold ib_cd9
 refine w_ir ?_
 unfold gf_cd9 at h
 refine go ?_;intros
 refine w_cond rfl (fun c => ?_) (fun c => ?_)
 ·replace h := itt h (by first | exact c | (have c2 := c; simp only [List.length_map] at c2; exact c2))
  try rw [c]
  refine go ?_;intros
  cases h
  exact r_end
 replace h := itf h (by first | exact c | (have c2 := c; simp only [List.length_map] at c2; exact c2))
 try rw [c]
 obtain ⟨hf30, h⟩ := gd h
 obtain ⟨q20, h35, h⟩ := bnd h
 refine go ?_;intros
 refine w_last (fun t o => ∃ q20_, q20 = .inr q20_ ∧ Pin t (ovr [] t) ∧ PinH o (ovh [] o)) ?_ ?_
 ·refine w_loop2 (fun n t o => ∃ l24 k22  , gl_cd9_1 a1 l24 k22  = some q20 ∧ n = l24.length ∧ (a0).drop k22 = l24 ∧ Pin t (ovr [(0, .ro (List.map (eFeat false) a0)), (1, .ro (List.map (eFeat false) a1)), (5, .v (.int .i64 (k22 : Int)))] t) ∧ PinH o (ovh [] o)) _ ⟨_, _, h35, rfl, rfl, pin, pinh⟩ ?_
  rintro n t o ⟨l24, k22, h35, rfl, hd25, pq1, pq2⟩
  refine pinned pq1 pq2 ?_
  cases l24 with
  | nil =>
   have hge27 := drop_ge hd25
   rw [gl_cd9_1] at h35
   refine go ?_;intros
   rw [hge27]
   refine go ?_;intros
   cases h35
   exact k_cn ⟨_, rfl, pin, pinh⟩
  | cons x23 l24 =>
   have hlt26 := drop_lt hd25
   have hx28 := drop_ix hd25
   have hw29 := drop_wr hd25 hf30
   rw [gl_cd9_1] at h35
   refine go ?_;intros
   rw [hlt26]
   refine go ?_;intros
   refine r_iro rfl rfl hx28 rfl ?_
   obtain ⟨x31, h32, h35⟩ := bnd h35
   refine go ?_;intros
   refine r_iro rfl rfl h32 rfl ?_
   obtain ⟨x33, h34, h35⟩ := bnd h35
   refine go ?_;intros
   refine c_call (c := c_bv9) (x23, x31) H_bv9 h34 fun ch => ?_
   refine go ?_;intros
   refine w_cond rfl (fun c => ?_) (fun c => ?_)
   ·replace h35 := itt h35 c
    try rw [c]
    refine go ?_;intros
    cases h35
    replace h : some _ = some _ := h
    cases h
    exact r_end
   replace h35 := itf h35 c
   try rw [c]
   refine go ?_;intros
   rw [hw29]
   exact k_ln2 _ (Nat.lt_succ_self _) ⟨_, _, h35, rfl, drop_next hd25, pin, pinh⟩
 rintro t o ⟨q20, rfl, pq1, pq2⟩
 refine pinnedQ pq1 pq2 ?_
 refine go ?_;intros
 cases h
 exact r_end
theorem d_dz9 {G : Gam} (H_dt9 : Has G c_dt9) (H_cd9 : Has G c_cd9) (a0 : Commit) (a1 : Commit) (r : Bool) (h : gf_dz9 a0 a1 = some r) : Does G if_dz9 ks_dz9 (c_dz9.args (a0, a1)) [] (c_dz9.ans (a0, a1) r) := by
 refine does_pn (L := [(0, .agg [.ro (List.map eInt a0.up), .ro (List.map (eFeat false) a0.sheet), .v (.string a0.note)]), (1, .agg [.ro (List.map eInt a1.up), .ro (List.map (eFeat false) a1.sheet), .v (.string a1.note)])]) (fun bs => pin) fun bs t o => ?_
 show vwp _ ib_dz9 _ _
 unfold ib_dz9
 refine w_ir ?_
 unfold gf_dz9 at h
 obtain ⟨x3, h4, h⟩ := bnd h
 refine go ?_;intros
 refine c_call (c := c_dt9) (a0.up, a1.up) H_dt9 h4 fun ch => ?_
 refine go ?_;intros
 refine s_split rfl (fun c => ?_) (fun c => ?_)
 ·replace h := itt h c
  rw [c]
  obtain ⟨x5, h6, h⟩ := bnd h
  refine go ?_;intros
  refine c_call (c := c_cd9) (a0.sheet, a1.sheet) H_cd9 h6 fun ch => ?_
  refine go ?_;intros
  refine s_split rfl (fun c => ?_) (fun c => ?_)
  ·replace h := itt h c
   rw [c]
   refine go ?_;intros
   cases h
   exact r_end
  replace h := itf h c
  rw [c]
  refine go ?_;intros
  cases h
  exact r_end
 replace h := itf h c
 rw [c]
 refine go ?_;intros
 cases h
 exact r_end
theorem d_ea9 {G : Gam}  (a0 : (List Int)) (a1 : Int) (r : Bool) (h : gf_ea9 a0 a1 = some r) : Does G if_ea9 ks_ea9 (c_ea9.args (a0, a1)) [] (c_ea9.ans (a0, a1) r) := by
 refine does_pn (L := [(0, .ro (List.map eInt a0)), (1, .v (.int .i64 a1))]) (fun bs => pin) fun bs t o => ?_
 show vwp _ ib_ea9 _ _
 unfold ib_ea9
 refine w_ir ?_
 unfold gf_ea9 at h
 obtain ⟨hf18, h⟩ := gd h
 obtain ⟨q8, h23, h⟩ := bnd h
 refine go ?_;intros
 refine w_last (fun t o => ∃ q8_, q8 = .inr q8_ ∧ Pin t (ovr [(0, .ro (List.map eInt a0)), (1, .v (.int .i64 a1))] t) ∧ PinH o (ovh [] o)) ?_ ?_
 ·refine w_loop2 (fun n t o => ∃ l12 k10  , gl_ea9_1 a1 l12 k10  = some q8 ∧ n = l12.length ∧ (a0).drop k10 = l12 ∧ Pin t (ovr [(0, .ro (List.map eInt a0)), (1, .v (.int .i64 a1)), (5, .v (.int .i64 (k10 : Int)))] t) ∧ PinH o (ovh [] o)) _ ⟨_, _, h23, rfl, rfl, pin, pinh⟩ ?_
  rintro n t o ⟨l12, k10, h23, rfl, hd13, pq1, pq2⟩
  refine pinned pq1 pq2 ?_
  cases l12 with
  | nil =>
   have hge15 := drop_ge hd13
   rw [gl_ea9_1] at h23
   refine go ?_;intros
   rw [hge15]
   refine go ?_;intros
   cases h23
   exact k_cn ⟨_, rfl, pin, pinh⟩
  | cons x11 l12 =>
   have hlt14 := drop_lt hd13
   have hx16 := drop_ix hd13
   have hw17 := drop_wr hd13 hf18
   rw [gl_ea9_1] at h23
   refine go ?_;intros
   rw [hlt14]
   refine go ?_;intros
   refine r_iro rfl rfl hx16 rfl ?_
   refine go ?_;intros
   refine s_split rfl (fun c => ?_) (fun c => ?_)
   ·replace h23 := itt h23 c
    rw [c]
    refine go ?_;intros
    cases h23
    replace h : some _ = some _ := h
    cases h
    exact r_end
   replace h23 := itf h23 c
   rw [c]
   refine go ?_;intros
   refine r_iro rfl rfl hx16 rfl ?_
   refine go ?_;intros
   refine w_cond rfl (fun c => ?_) (fun c => ?_)
   ·replace h23 := itt h23 c
    try rw [c]
    refine go ?_;intros
    cases h23
    replace h : some _ = some _ := h
    cases h
    exact r_end
   replace h23 := itf h23 c
   try rw [c]
   refine go ?_;intros
   rw [hw17]
   exact k_ln2 _ (Nat.lt_succ_self _) ⟨_, _, h23, rfl, drop_next hd13, pin, pinh⟩
 rintro t o ⟨q8, rfl, pq1, pq2⟩
 refine pinnedQ pq1 pq2 ?_
 refine go ?_;intros
 refine s_split rfl (fun c => ?_) (fun c => ?_)
 ·replace h := itt h (by first | exact c | (have c2 := c; simp only [List.length_map] at c2; exact c2))
  rw [c]
  refine go ?_;intros
  refine s_split rfl (fun c => ?_) (fun c => ?_)
  ·replace h := itt h (by first | exact c | (have c2 := c; simp only [List.length_map] at c2; exact c2))
   rw [c]
   refine go ?_;intros
   refine s_split rfl (fun c => ?_) (fun c => ?_)
   ·replace h := itt h (by first | exact c | (have c2 := c; simp only [List.length_map] at c2; exact c2))
    rw [c]
    refine go ?_;intros
    cases h
    exact r_end
   replace h := itf h (by first | exact c | (have c2 := c; simp only [List.length_map] at c2; exact c2))
   rw [c]
   obtain ⟨x19, h20, h⟩ := bnd h
   refine go ?_;intros
   refine r_iro rfl rfl h20 rfl ?_
   obtain ⟨x21, h22, h⟩ := bnd h
   refine go ?_;intros
   refine r_iro rfl rfl h22 rfl ?_
   refine go ?_;intros
   cases h
   exact r_end
  replace h := itf h (by first | exact c | (have c2 := c; simp only [List.length_map] at c2; exact c2))
  rw [c]
  refine go ?_;intros
  cases h
  exact r_end
 replace h := itf h (by first | exact c | (have c2 := c; simp only [List.length_map] at c2; exact c2))
 rw [c]
 refine go ?_;intros
 cases h
 exact r_end
end Go.Proofs.AM
