/- Lemmas of the proof (KLF0), on an abstract machine. Conditions: none. -/
import Derived.Test.YtknajiljcemblabGreatKLD
set_option linter.unusedVariables false
set_option linter.unusedSimpArgs false
set_option maxRecDepth 100000
set_option maxHeartbeats 4000000
namespace Go.Proofs.AM
attribute [local irreducible] vwp vstps vstpLs vstp vdo vret kseq kblk kloop kend kcut kloop2 frzV renV shutK pfzV trnV unrV
theorem d_cm9 {G : Gam}  (a0 : (List Pt)) (a1 : Int) (r : Int) (h : gf_cm9 a0 a1 = some r) : Does G if_cm9 ks_cm9 (c_cm9.args (a0, a1)) [] (c_cm9.ans (a0, a1) r) := by
 refine does_pn (L := [(0, .ro (List.map ePt a0)), (1, .v (.int .i64 a1))]) (fun bs => pin) fun bs t o => ?_
 show vwp _ ib_cm9 _ _
 unfold ib_cm9
 refine w_ir ?_
 unfold gf_cm9 at h
 refine go ?_;intros
 refine w_cond rfl (fun c => ?_) (fun c => ?_)
 ·replace h := itt h (by first | exact c | (have c2 := c; simp only [List.length_map] at c2; exact c2))
  try rw [c]
  refine go ?_;intros
  cases h
  exact r_end
 replace h := itf h (by first | exact c | (have c2 := c; simp only [List.length_map] at c2; exact c2))
 try rw [c]
 refine go ?_;intros
 cases h
 exact r_end
theorem d_cp9 {G : Gam}  (a0 : Tag) (a1 : Int) (r : Int) (h : gf_cp9 a0 a1 = some r) : Does G if_cp9 ks_cp9 (c_cp9.args (a0, a1)) [] (c_cp9.ans (a0, a1) r) := by
 refine does_pn (L := [(0, .agg [.v (.string a0.key), .v (.string a0.val)]), (1, .v (.int .i64 a1))]) (fun bs => pin) fun bs t o => ?_
 show vwp _ ib_cp9 _ _
 unfold ib_cp9
 refine w_ir ?_
 unfold gf_cp9 at h
 refine go ?_;intros
 refine w_cond rfl (fun c => ?_) (fun c => ?_)
 ·replace h := itt h c
  try rw [c]
  refine go ?_;intros
  cases h
  exact r_end
 replace h := itf h c
 try rw [c]
 refine go ?_;intros
 refine w_cond rfl (fun c => ?_) (fun c => ?_)
 ·replace h := itt h c
  try rw [c]
  refine go ?_;intros
  cases h
  exact r_end
 replace h := itf h c
 try rw [c]
 refine go ?_;intros
 cases h
 exact r_end
theorem d_co9 {G : Gam} (H_cm9 : Has G c_cm9) (a0 : Shape) (a1 : Int) (r : Int) (h : gf_co9 a0 a1 = some r) : Does G if_co9 ks_co9 (c_co9.args (a0, a1)) [] (c_co9.ans (a0, a1) r) := by
 refine does_pn (L := [(0, .agg [.v (.int .i64 a0.kind), .ro (List.map ePt a0.pts)]), (1, .v (.int .i64 a1))]) (fun bs => pin) fun bs t o => ?_
 show vwp _ ib_co9 _ _
 unfold ib_co9
 refine w_ir ?_
 unfold gf_co9 at h
 obtain ⟨x2, h3, h⟩ := bnd h
 refine go ?_;intros
 refine c_call (c := c_cm9) (a0.pts, a1) H_cm9 h3 fun ch => ?_
 refine go ?_;intros
 refine w_cond rfl (fun c => ?_) (fun c => ?_)
 ·replace h := itt h c
  try rw [c]
  refine go ?_;intros
  cases h
  exact r_end
 replace h := itf h c
 try rw [c]
 refine go ?_;intros
 cases h
 exact r_end
theorem d_cq9 {G : Gam} (H_cp9 : Has G c_cp9) (a0 : (List Tag)) (a1 : Int) (r : Int) (h : gf_cq9 a0 a1 = some r) : Does G if_cq9 ks_cq9 (c_cq9.args (a0, a1)) [] (c_cq9.ans (a0, a1) r) := by
 refine does_pn (L := [(0, .ro (List.map eTag a0)), (1, .v (.int .i64 a1))]) (fun bs => pin) fun bs t o => ?_
 show vwp _ ib_cq9 _ _
 unfold ib_cq9
 refine w_ir ?_
 unfold gf_cq9 at h
 refine go ?_;intros
 refine w_cond rfl (fun c => ?_) (fun c => ?_)
 ·replace h := itt h (by first | exact c | (have c2 := c; simp only [List.length_map] at c2; exact c2))
  try rw [c]
  refine go ?_;intros
  cases h
  exact r_end
 replace h := itf h (by first | exact c | (have c2 := c; simp only [List.length_map] at c2; exact c2))
 try rw [c]
 obtain ⟨hf26, h⟩ := gd h
 obtain ⟨q15, h30, h⟩ := bnd h
 refine go ?_;intros
 refine w_last (fun t o => ∃ q15_, q15 = .inr q15_ ∧ Pin t (ovr [(1, .v (.int .i64 q15_))] t) ∧ PinH o (ovh [] o)) ?_ ?_
 ·refine w_loop2 (fun n t o => ∃ l20 k18 v16 , gl_cq9_1 l20 k18 v16 = some q15 ∧ n = l20.length ∧ (a0).drop k18 = l20 ∧ Pin t (ovr [(0, .ro (List.map eTag a0)), (1, .v (.int .i64 v16)), (5, .v (.int .i64 (k18 : Int)))] t) ∧ PinH o (ovh [] o)) _ ⟨_, _, _, h30, rfl, rfl, pin, pinh⟩ ?_
  rintro n t o ⟨l20, k18, v16, h30, rfl, hd21, pq1, pq2⟩
  refine pinned pq1 pq2 ?_
  cases l20 with
  | nil =>
   have hge23 := drop_ge hd21
   rw [gl_cq9_1] at h30
   refine go ?_;intros
   rw [hge23]
   refine go ?_;intros
   cases h30
   exact k_cn ⟨_, rfl, pin, pinh⟩
  | cons x19 l20 =>
   have hlt22 := drop_lt hd21
   have hx24 := drop_ix hd21
   have hw25 := drop_wr hd21 hf26
   rw [gl_cq9_1] at h30
   refine go ?_;intros
   rw [hlt22]
   refine go ?_;intros
   refine r_iro rfl rfl hx24 rfl ?_
   obtain ⟨x27, h28, h30⟩ := bnd h30
   refine go ?_;intros
   refine c_call (c := c_cp9) (x19, v16) H_cp9 h28 fun ch => ?_
   refine go ?_;intros
   refine w_cond rfl (fun c => ?_) (fun c => ?_)
   ·replace h30 := itt h30 c
    try rw [c]
    refine go ?_;intros
    cases h30
    replace h : some _ = some _ := h
    cases h
    exact r_end
   replace h30 := itf h30 c
   try rw [c]
   refine go ?_;intros
   rw [hw25]
   exact k_ln2 _ (Nat.lt_succ_self _) ⟨_, _, _, h30, rfl, drop_next hd21, pin, pinh⟩
 rintro t o ⟨q15, rfl, pq1, pq2⟩
 refine pinnedQ pq1 pq2 ?_
 refine go ?_;intros
 cases h
 exact r_end
theorem d_ch9 {G : Gam} (H_co9 : Has G c_co9) (H_cq9 : Has G c_cq9) (a0 : Feat) (a1 : Int) (r : Int) (h : gf_ch9 a0 a1 = some r) : Does G if_ch9 ks_ch9 (c_ch9.args (a0, a1)) [] (c_ch9.ans (a0, a1) r) := by
 refine does_pn (L := [(0, .agg [.v (.string a0.id), .v (.int .i64 a0.shape.kind), .ro (List.map ePt a0.shape.pts), .ro (List.map eTag a0.tags)]), (1, .v (.int .i64 a1))]) (fun bs => pin) fun bs t o => ?_
 show vwp _ ib_ch9 _ _
 unfold ib_ch9
 refine w_ir ?_
 unfold gf_ch9 at h
 refine go ?_;intros
 refine w_cond rfl (fun c => ?_) (fun c => ?_)
 ·replace h := itt h c
  try rw [c]
  refine go ?_;intros
  cases h
  exact r_end
 replace h := itf h c
 try rw [c]
 obtain ⟨x2, h3, h⟩ := bnd h
 refine go ?_;intros
 refine c_call (c := c_co9) (a0.shape, (IntKind.i64.wrap (a1 - (a0.id.size : Int)))) H_co9 h3 fun ch => ?_
 refine go ?_;intros
 refine w_cond rfl (fun c => ?_) (fun c => ?_)
 ·replace h := itt h c
  try rw [c]
  refine go ?_;intros
  cases h
  exact r_end
 replace h := itf h c
 try rw [c]
 obtain ⟨x4, h5, h⟩ := bnd h
 refine go ?_;intros
 refine c_call (c := c_cq9) (a0.tags, x2) H_cq9 h5 fun ch => ?_
 refine go ?_;intros
 refine w_cond rfl (fun c => ?_) (fun c => ?_)
 ·replace h := itt h c
  try rw [c]
  refine go ?_;intros
  cases h
  exact r_end
 replace h := itf h c
 try rw [c]
 refine go ?_;intros
 cases h
 exact r_end
theorem d_cl9 {G : Gam}  (a0 : (List Int)) (a1 : Int) (r : Int) (h : gf_cl9 a0 a1 = some r) : Does G if_cl9 ks_cl9 (c_cl9.args (a0, a1)) [] (c_cl9.ans (a0, a1) r) := by
 refine does_pn (L := [(0, .ro (List.map eInt a0)), (1, .v (.int .i64 a1))]) (fun bs => pin) fun bs t o => ?_
 show vwp _ ib_cl9 _ _
 unfold ib_cl9
 refine w_ir ?_
 unfold gf_cl9 at h
 refine go ?_;intros
 refine w_cond rfl (fun c => ?_) (fun c => ?_)
 ·replace h := itt h (by first | exact c | (have c2 := c; simp only [List.length_map] at c2; exact c2))
  try rw [c]
  refine go ?_;intros
  cases h
  exact r_end
 replace h := itf h (by first | exact c | (have c2 := c; simp only [List.length_map] at c2; exact c2))
 try rw [c]
 refine go ?_;intros
 cases h
 exact r_end
theorem d_ci9 {G : Gam} (H_ch9 : Has G c_ch9) (a0 : (List Feat)) (a1 : Int) (r : Int) (h : gf_ci9 a0 a1 = some r) : Does G if_ci9 ks_ci9 (c_ci9.args (a0, a1)) [] (c_ci9.ans (a0, a1) r) := by
 refine does_pn (L := [(0, .ro (List.map (eFeat false) a0)), (1, .v (.int .i64 a1))]) (fun bs => pin) fun bs t o => ?_
 show vwp _ ib_ci9 _ _
 unfold ib_ci9
 refine w_ir ?_
 unfold gf_ci9 at h
 refine go ?_;intros
 refine w_cond rfl (fun c => ?_) (fun c => ?_)
 ·replace h := itt h (by first | exact c | (have c2 := c; simp only [List.length_map] at c2; exact c2))
  try rw [c]
  refine go ?_;intros
  cases h
  exact r_end
 replace h := itf h (by first | exact c | (have c2 := c; simp only [List.length_map] at c2; exact c2))
 try rw [c]
 obtain ⟨hf26, h⟩ := gd h
 obtain ⟨q15, h30, h⟩ := bnd h
 refine go ?_;intros
 refine w_last (fun t o => ∃ q15_, q15 = .inr q15_ ∧ Pin t (ovr [(1, .v (.int .i64 q15_))] t) ∧ PinH o (ovh [] o)) ?_ ?_
 ·refine w_loop2 (fun n t o => ∃ l20 k18 v16 , gl_ci9_1 l20 k18 v16 = some q15 ∧ n = l20.length ∧ (a0).drop k18 = l20 ∧ Pin t (ovr [(0, .ro (List.map (eFeat false) a0)), (1, .v (.int .i64 v16)), (5, .v (.int .i64 (k18 : Int)))] t) ∧ PinH o (ovh [] o)) _ ⟨_, _, _, h30, rfl, rfl, pin, pinh⟩ ?_
  rintro n t o ⟨l20, k18, v16, h30, rfl, hd21, pq1, pq2⟩
  refine pinned pq1 pq2 ?_
  cases l20 with
  | nil =>
   have hge23 := drop_ge hd21
   rw [gl_ci9_1] at h30
   refine go ?_;intros
   rw [hge23]
   refine go ?_;intros
   cases h30
   exact k_cn ⟨_, rfl, pin, pinh⟩
  | cons x19 l20 =>
   have hlt22 := drop_lt hd21
   have hx24 := drop_ix hd21
   have hw25 := drop_wr hd21 hf26
   rw [gl_ci9_1] at h30
   refine go ?_;intros
   rw [hlt22]
   refine go ?_;intros
   refine r_iro rfl rfl hx24 rfl ?_
   obtain ⟨x27, h28, h30⟩ := bnd h30
   refine go ?_;intros
   refine c_call (c := c_ch9) (x19, v16) H_ch9 h28 fun ch => ?_
   refine go ?_;intros
   refine w_cond rfl (fun c => ?_) (fun c => ?_)
   ·replace h30 := itt h30 c
    try rw [c]
    refine go ?_;intros
    cases h30
    replace h : some _ = some _ := h
    cases h
    exact r_end
   replace h30 := itf h30 c
   try rw [c]
   refine go ?_;intros
   rw [hw25]
   exact k_ln2 _ (Nat.lt_succ_self _) ⟨_, _, _, h30, rfl, drop_next hd21, pin, pinh⟩
 rintro t o ⟨q15, rfl, pq1, pq2⟩
 refine pinnedQ pq1 pq2 ?_
 refine go ?_;intros
 cases h
 exact r_end
theorem d_cf9 {G : Gam} (H_cl9 : Has G c_cl9) (H_ci9 : Has G c_ci9) (a0 : Commit) (a1 : Int) (r : Int) (h : gf_cf9 a0 a1 = some r) : Does G if_cf9 ks_cf9 (c_cf9.args (a0, a1)) [] (c_cf9.ans (a0, a1) r) := by
 refine does_pn (L := [(0, .agg [.ro (List.map eInt a0.up), .ro (List.map (eFeat false) a0.sheet), .v (.string a0.note)]), (1, .v (.int .i64 a1))]) (fun bs => pin) fun bs t o => ?_
 show vwp _ ib_cf9 _ _
 unfold ib_cf9
 refine w_ir ?_
 unfold gf_cf9 at h
 obtain ⟨x2, h3, h⟩ := bnd h
 refine go ?_;intros
 refine c_call (c := c_cl9) (a0.up, a1) H_cl9 h3 fun ch => ?_
 refine go ?_;intros
 refine w_cond rfl (fun c => ?_) (fun c => ?_)
 ·replace h := itt h c
  try rw [c]
  refine go ?_;intros
  cases h
  exact r_end
 replace h := itf h c
 try rw [c]
 obtain ⟨x4, h5, h⟩ := bnd h
 refine go ?_;intros
 refine c_call (c := c_ci9) (a0.sheet, x2) H_ci9 h5 fun ch => ?_
 refine go ?_;intros
 refine w_cond rfl (fun c => ?_) (fun c => ?_)
 ·replace h := itt h c
  try rw [c]
  refine go ?_;intros
  cases h
  exact r_end
 replace h := itf h c
 try rw [c]
 refine go ?_;intros
 refine w_cond rfl (fun c => ?_) (fun c => ?_)
 ·replace h := itt h c
  try rw [c]
  refine go ?_;intros
  cases h
  exact r_end
 replace h := itf h c
 try rw [c]
 refine go ?_;intros
 cases h
 exact r_end
theorem d_cj9 {G : Gam}  (a0 : Head) (a1 : Int) (r : Int) (h : gf_cj9 a0 a1 = some r) : Does G if_cj9 ks_cj9 (c_cj9.args (a0, a1)) [] (c_cj9.ans (a0, a1) r) := by
 refine does_pn (L := [(0, .agg [.v (.string a0.name), .v (.int .i64 a0.at_)]), (1, .v (.int .i64 a1))]) (fun bs => pin) fun bs t o => ?_
 show vwp _ ib_cj9 _ _
 unfold ib_cj9
 refine w_ir ?_
 unfold gf_cj9 at h
 refine go ?_;intros
 refine w_cond rfl (fun c => ?_) (fun c => ?_)
 ·replace h := itt h c
  try rw [c]
  refine go ?_;intros
  cases h
  exact r_end
 replace h := itf h c
 try rw [c]
 refine go ?_;intros
 cases h
 exact r_end
theorem d_cg9 {G : Gam} (H_cf9 : Has G c_cf9) (a0 : (List Commit)) (a1 : Int) (r : Int) (h : gf_cg9 a0 a1 = some r) : Does G if_cg9 ks_cg9 (c_cg9.args (a0, a1)) [] (c_cg9.ans (a0, a1) r) := by
 refine does_pn (L := [(0, .ro (List.map (eCommit false) a0)), (1, .v (.int .i64 a1))]) (fun bs => pin) fun bs t o => ?_
 show vwp _ ib_cg9 _ _
 unfold ib_cg9
 refine w_ir ?_
 unfold gf_cg9 at h
 refine go ?_;intros
 refine w_cond rfl (fun c => ?_) (fun c => ?_)
 ·replace h := itt h (by first | exact c | (have c2 := c; simp only [List.length_map] at c2; exact c2))
  try rw [c]
  refine go ?_;intros
  cases h
  exact r_end
 replace h := itf h (by first | exact c | (have c2 := c; simp only [List.length_map] at c2; exact c2))
 try rw [c]
 obtain ⟨hf26, h⟩ := gd h
 obtain ⟨q15, h30, h⟩ := bnd h
 refine go ?_;intros
 refine w_last (fun t o => ∃ q15_, q15 = .inr q15_ ∧ Pin t (ovr [(1, .v (.int .i64 q15_))] t) ∧ PinH o (ovh [] o)) ?_ ?_
 ·refine w_loop2 (fun n t o => ∃ l20 k18 v16 , gl_cg9_1 l20 k18 v16 = some q15 ∧ n = l20.length ∧ (a0).drop k18 = l20 ∧ Pin t (ovr [(0, .ro (List.map (eCommit false) a0)), (1, .v (.int .i64 v16)), (5, .v (.int .i64 (k18 : Int)))] t) ∧ PinH o (ovh [] o)) _ ⟨_, _, _, h30, rfl, rfl, pin, pinh⟩ ?_
  rintro n t o ⟨l20, k18, v16, h30, rfl, hd21, pq1, pq2⟩
  refine pinned pq1 pq2 ?_
  cases l20 with
  | nil =>
   have hge23 := drop_ge hd21
   rw [gl_cg9_1] at h30
   refine go ?_;intros
   rw [hge23]
   refine go ?_;intros
   cases h30
   exact k_cn ⟨_, rfl, pin, pinh⟩
  | cons x19 l20 =>
   have hlt22 := drop_lt hd21
   have hx24 := drop_ix hd21
   have hw25 := drop_wr hd21 hf26
   rw [gl_cg9_1] at h30
   refine go ?_;intros
   rw [hlt22]
   refine go ?_;intros
   refine r_iro rfl rfl hx24 rfl ?_
   obtain ⟨x27, h28, h30⟩ := bnd h30
   refine go ?_;intros
   refine c_call (c := c_cf9) (x19, v16) H_cf9 h28 fun ch => ?_
   refine go ?_;intros
   refine w_cond rfl (fun c => ?_) (fun c => ?_)
   ·replace h30 := itt h30 c
    try rw [c]
    refine go ?_;intros
    cases h30
    replace h : some _ = some _ := h
    cases h
    exact r_end
   replace h30 := itf h30 c
   try rw [c]
   refine go ?_;intros
   rw [hw25]
   exact k_ln2 _ (Nat.lt_succ_self _) ⟨_, _, _, h30, rfl, drop_next hd21, pin, pinh⟩
 rintro t o ⟨q15, rfl, pq1, pq2⟩
 refine pinnedQ pq1 pq2 ?_
 refine go ?_;intros
 cases h
 exact r_end
theorem d_ck9 {G : Gam} (H_cj9 : Has G c_cj9) (a0 : (List Head)) (a1 : Int) (r : Int) (h : gf_ck9 a0 a1 = some r) : Does G if_ck9 ks_ck9 (c_ck9.args (a0, a1)) [] (c_ck9.ans (a0, a1) r) := by
 refine does_pn (L := [(0, .ro (List.map eHead a0)), (1, .v (.int .i64 a1))]) (fun bs => pin) fun bs t o => ?_
 show vwp _ ib_ck9 _ _
 unfold ib_ck9
 refine w_ir ?_
 unfold gf_ck9 at h
 refine go ?_;intros
 refine w_cond rfl (fun c => ?_) (fun c => ?_)
 ·replace h := itt h (by first | exact c | (have c2 := c; simp only [List.length_map] at c2; exact c2))
  try rw [c]
  refine go ?_;intros
  cases h
  exact r_end
 replace h := itf h (by first | exact c | (have c2 := c; simp only [List.length_map] at c2; exact c2))
 try rw [c]
 obtain ⟨hf26, h⟩ := gd h
 obtain ⟨q15, h30, h⟩ := bnd h
 refine go ?_;intros
 refine w_last (fun t o => ∃ q15_, q15 = .inr q15_ ∧ Pin t (ovr [(1, .v (.int .i64 q15_))] t) ∧ PinH o (ovh [] o)) ?_ ?_
 ·refine w_loop2 (fun n t o => ∃ l20 k18 v16 , gl_ck9_1 l20 k18 v16 = some q15 ∧ n = l20.length ∧ (a0).drop k18 = l20 ∧ Pin t (ovr [(0, .ro (List.map eHead a0)), (1, .v (.int .i64 v16)), (5, .v (.int .i64 (k18 : Int)))] t) ∧ PinH o (ovh [] o)) _ ⟨_, _, _, h30, rfl, rfl, pin, pinh⟩ ?_
  rintro n t o ⟨l20, k18, v16, h30, rfl, hd21, pq1, pq2⟩
  refine pinned pq1 pq2 ?_
  cases l20 with
  | nil =>
   have hge23 := drop_ge hd21
   rw [gl_ck9_1] at h30
   refine go ?_;intros
   rw [hge23]
   refine go ?_;intros
   cases h30
   exact k_cn ⟨_, rfl, pin, pinh⟩
  | cons x19 l20 =>
   have hlt22 := drop_lt hd21
   have hx24 := drop_ix hd21
   have hw25 := drop_wr hd21 hf26
   rw [gl_ck9_1] at h30
   refine go ?_;intros
   rw [hlt22]
   refine go ?_;intros
   refine r_iro rfl rfl hx24 rfl ?_
   obtain ⟨x27, h28, h30⟩ := bnd h30
   refine go ?_;intros
   refine c_call (c := c_cj9) (x19, v16) H_cj9 h28 fun ch => ?_
   refine go ?_;intros
   refine w_cond rfl (fun c => ?_) (fun c => ?_)
   ·replace h30 := itt h30 c
    try rw [c]
    refine go ?_;intros
    cases h30
    replace h : some _ = some _ := h
    cases h
    exact r_end
   replace h30 := itf h30 c
   try rw [c]
   refine go ?_;intros
   rw [hw25]
   exact k_ln2 _ (Nat.lt_succ_self _) ⟨_, _, _, h30, rfl, drop_next hd21, pin, pinh⟩
 rintro t o ⟨q15, rfl, pq1, pq2⟩
 refine pinnedQ pq1 pq2 ?_
 refine go ?_;intros
 cases h
 exact r_end
theorem d_eg9 {G : Gam}  (a0 : Int) (r : Bool) (h : gf_eg9 a0 = some r) : Does G if_eg9 ks_eg9 (c_eg9.args (a0)) [] (c_eg9.ans (a0) r) := by
 refine does_pn (L := [(0, .v (.int .i64 a0))]) (fun bs => pin) fun bs t o => ?_
 show vwp _ ib_eg9 _ _
 unfold ib_eg9
 refine w_ir ?_
 unfold gf_eg9 at h
 refine go ?_;intros
 refine s_split rfl (fun c => ?_) (fun c => ?_)
 ·replace h := itt h c
  rw [c]
  refine go ?_;intros
  cases h
  exact r_end
 replace h := itf h c
 rw [c]
 refine go ?_;intros
 cases h
 exact r_end
theorem d_eh9 {G : Gam} (H_eg9 : Has G c_eg9) (a0 : (List Pt)) (r : Bool) (h : gf_eh9 a0 = some r) : Does G if_eh9 ks_eh9 (c_eh9.args (a0)) [] (c_eh9.ans (a0) r) := by
 refine does_pn (L := [(0, .ro (List.map ePt a0))]) (fun bs => pin) fun bs t o => ?_
 show vwp _ ib_eh9 _ _
 unfold ib_eh9
 refine w_ir ?_
 unfold gf_eh9 at h
 obtain ⟨hf34, h⟩ := gd h
 obtain ⟨q24, h41, h⟩ := bnd h
 refine go ?_;intros
 refine w_last (fun t o => ∃ q24_, q24 = .inr q24_ ∧ Pin t (ovr [(0, .ro (List.map ePt a0))] t) ∧ PinH o (ovh [] o)) ?_ ?_
 ·refine w_loop2 (fun n t o => ∃ l28 k26  , gl_eh9_1 a0 l28 k26  = some q24 ∧ n = l28.length ∧ (a0).drop k26 = l28 ∧ Pin t (ovr [(0, .ro (List.map ePt a0)), (3, .v (.int .i64 (k26 : Int)))] t) ∧ PinH o (ovh [] o)) _ ⟨_, _, h41, rfl, rfl, pin, pinh⟩ ?_
  rintro n t o ⟨l28, k26, h41, rfl, hd29, pq1, pq2⟩
  refine pinned pq1 pq2 ?_
  cases l28 with
  | nil =>
   have hge31 := drop_ge hd29
   rw [gl_eh9_1] at h41
   refine go ?_;intros
   rw [hge31]
   refine go ?_;intros
   cases h41
   exact k_cn ⟨_, rfl, pin, pinh⟩
  | cons x27 l28 =>
   have hlt30 := drop_lt hd29
   have hx32 := drop_ix hd29
   have hw33 := drop_wr hd29 hf34
   rw [gl_eh9_1] at h41
   refine go ?_;intros
   rw [hlt30]
   refine go ?_;intros
   refine r_iro rfl rfl hx32 rfl ?_
   obtain ⟨x35, h36, h41⟩ := bnd h41
   refine go ?_;intros
   refine c_call (c := c_eg9) (x27.x) H_eg9 h36 fun ch => ?_
   refine go ?_;intros
   refine s_split rfl (fun c => ?_) (fun c => ?_)
   ·replace h41 := itt h41 c
    rw [c]
    refine go ?_;intros
    cases h41
    replace h : some _ = some _ := h
    cases h
    exact r_end
   replace h41 := itf h41 c
   rw [c]
   refine go ?_;intros
   refine r_iro rfl rfl hx32 rfl ?_
   obtain ⟨x37, h38, h41⟩ := bnd h41
   refine go ?_;intros
   refine c_call (c := c_eg9) (x27.y) H_eg9 h38 fun ch => ?_
   refine go ?_;intros
   refine s_split rfl (fun c => ?_) (fun c => ?_)
   ·replace h41 := itt h41 c
    rw [c]
    refine go ?_;intros
    cases h41
    replace h : some _ = some _ := h
    cases h
    exact r_end
   replace h41 := itf h41 c
   rw [c]
   refine go ?_;intros
   refine s_split rfl (fun c => ?_) (fun c => ?_)
   ·replace h41 := itt h41 c
    rw [c]
    refine go ?_;intros
    refine r_iro rfl rfl hx32 rfl ?_
    obtain ⟨x39, h40, h41⟩ := bnd h41
    refine go ?_;intros
    refine r_iro rfl rfl h40 rfl ?_
    refine go ?_;intros
    refine w_cond rfl (fun c => ?_) (fun c => ?_)
    ·replace h41 := itt h41 c
     try rw [c]
     refine go ?_;intros
     cases h41
     replace h : some _ = some _ := h
     cases h
     exact r_end
    replace h41 := itf h41 c
    try rw [c]
    refine go ?_;intros
    rw [hw33]
    exact k_ln2 _ (Nat.lt_succ_self _) ⟨_, _, h41, rfl, drop_next hd29, pin, pinh⟩
   replace h41 := itf h41 c
   rw [c]
   refine go ?_;intros
   rw [hw33]
   exact k_ln2 _ (Nat.lt_succ_self _) ⟨_, _, h41, rfl, drop_next hd29, pin, pinh⟩
 rintro t o ⟨q24, rfl, pq1, pq2⟩
 refine pinnedQ pq1 pq2 ?_
 refine go ?_;intros
 cases h
 exact r_end
theorem d_eb9 {G : Gam}  (a0 : Str) (r : Bool) (h : gf_eb9 a0 = some r) : Does G if_eb9 ks_eb9 (c_eb9.args (a0)) [] (c_eb9.ans (a0) r) := by
 refine does_pn (L := [(0, .v (.string a0))]) (fun bs => pin) fun bs t o => ?_
 show vwp _ ib_eb9 _ _
 unfold ib_eb9
 refine w_ir ?_
 unfold gf_eb9 at h
 obtain ⟨hf18, h⟩ := gd h
 obtain ⟨q8, h19, h⟩ := bnd h
 refine go ?_;intros
 refine w_last (fun t o => ∃ q8_, q8 = .inr q8_ ∧ Pin t (ovr [(0, .v (.string a0))] t) ∧ PinH o (ovh [] o)) ?_ ?_
 ·refine w_loop2 (fun n t o => ∃ l12 k10  , gl_eb9_1 l12 k10  = some q8 ∧ n = l12.length ∧ (a0.data.toList).drop k10 = l12 ∧ Pin t (ovr [(0, .v (.string a0)), (3, .v (.int .i64 (k10 : Int)))] t) ∧ PinH o (ovh [] o)) _ ⟨_, _, h19, rfl, rfl, pin, pinh⟩ ?_
  rintro n t o ⟨l12, k10, h19, rfl, hd13, pq1, pq2⟩
  refine pinned pq1 pq2 ?_
  cases l12 with
  | nil =>
   have hge15 := drop_geB hd13
   rw [gl_eb9_1] at h19
   refine go ?_;intros
   rw [hge15]
   refine go ?_;intros
   cases h19
   exact k_cn ⟨_, rfl, pin, pinh⟩
  | cons x11 l12 =>
   have hlt14 := drop_ltB hd13
   have hx16 := drop_ixB hd13
   have hw17 := drop_wrB hd13 hf18
   rw [gl_eb9_1] at h19
   refine go ?_;intros
   rw [hlt14]
   refine go ?_;intros
   refine r_sidx rfl rfl hx16 ?_
   refine go ?_;intros
   refine s_split rfl (fun c => ?_) (fun c => ?_)
   ·replace h19 := itt h19 c
    rw [c]
    refine go ?_;intros
    cases h19
    replace h : some _ = some _ := h
    cases h
    exact r_end
   replace h19 := itf h19 c
   rw [c]
   refine go ?_;intros
   refine r_sidx rfl rfl hx16 ?_
   refine go ?_;intros
   refine w_cond rfl (fun c => ?_) (fun c => ?_)
   ·replace h19 := itt h19 c
    try rw [c]
    refine go ?_;intros
    cases h19
    replace h : some _ = some _ := h
    cases h
    exact r_end
   replace h19 := itf h19 c
   try rw [c]
   refine go ?_;intros
   rw [hw17]
   exact k_ln2 _ (Nat.lt_succ_self _) ⟨_, _, h19, rfl, drop_next hd13, pin, pinh⟩
 rintro t o ⟨q8, rfl, pq1, pq2⟩
 refine pinnedQ pq1 pq2 ?_
 refine go ?_;intros
 refine s_split rfl (fun c => ?_) (fun c => ?_)
 ·replace h := itt h c
  rw [c]
  refine go ?_;intros
  cases h
  exact r_end
 replace h := itf h c
 rw [c]
 refine go ?_;intros
 cases h
 exact r_end
theorem d_dw9 {G : Gam} (H_eh9 : Has G c_eh9) (a0 : Shape) (r : Bool) (h : gf_dw9 a0 = some r) : Does G if_dw9 ks_dw9 (c_dw9.args (a0)) [] (c_dw9.ans (a0) r) := by
 refine does_pn (L := [(0, .agg [.v (.int .i64 a0.kind), .ro (List.map ePt a0.pts)])]) (fun bs => pin) fun bs t o => ?_
 show vwp _ ib_dw9 _ _
 unfold ib_dw9
 refine w_ir ?_
 unfold gf_dw9 at h
 obtain ⟨x2, h3, h⟩ := bnd h
 refine go ?_;intros
 refine c_call (c := c_eh9) (a0.pts) H_eh9 h3 fun ch => ?_
 refine go ?_;intros
 refine w_cond rfl (fun c => ?_) (fun c => ?_)
 ·replace h := itt h c
  try rw [c]
  refine go ?_;intros
  cases h
  exact r_end
 replace h := itf h c
 try rw [c]
 refine go ?_;intros
 refine w_cond rfl (fun c => ?_) (fun c => ?_)
 ·replace h := itt h c
  try rw [c]
  refine go ?_;intros
  cases h
  exact r_end
 replace h := itf h c
 try rw [c]
 refine go ?_;intros
 refine w_cond rfl (fun c => ?_) (fun c => ?_)
 ·replace h := itt h c
  try rw [c]
  refine go ?_;intros
  cases h
  exact r_end
 replace h := itf h c
 try rw [c]
 refine go ?_;intros
 refine w_cond rfl (fun c => ?_) (fun c => ?_)
 ·replace h := itt h c
  try rw [c]
  refine go ?_;intros
  refine s_split rfl (fun c => ?_) (fun c => ?_)
  ·replace h := itt h (by first | exact c | (have c2 := c; simp only [List.length_map] at c2; exact c2))
   rw [c]
   obtain ⟨x4, h5, h⟩ := bnd h
   refine go ?_;intros
   refine r_iro rfl rfl h5 rfl ?_
   obtain ⟨x6, h7, h⟩ := bnd h
   refine go ?_;intros
   refine r_iro rfl rfl h7 rfl ?_
   refine go ?_;intros
   cases h
   exact r_end
  replace h := itf h (by first | exact c | (have c2 := c; simp only [List.length_map] at c2; exact c2))
  rw [c]
  refine go ?_;intros
  cases h
  exact r_end
 replace h := itf h c
 try rw [c]
 refine go ?_;intros
 cases h
 exact r_end
theorem d_el9 {G : Gam} (H_eb9 : Has G c_eb9) (a0 : (List Tag)) (r : Bool) (h : gf_el9 a0 = some r) : Does G if_el9 ks_el9 (c_el9.args (a0)) [] (c_el9.ans (a0) r) := by
 refine does_pn (L := [(0, .ro (List.map eTag a0))]) (fun bs => pin) fun bs t o => ?_
 show vwp _ ib_el9 _ _
 unfold ib_el9
 refine w_ir ?_
 unfold gf_el9 at h
 obtain ⟨hf34, h⟩ := gd h
 obtain ⟨q24, h41, h⟩ := bnd h
 refine go ?_;intros
 refine w_last (fun t o => ∃ q24_, q24 = .inr q24_ ∧ Pin t (ovr [(0, .ro (List.map eTag a0))] t) ∧ PinH o (ovh [] o)) ?_ ?_
 ·refine w_loop2 (fun n t o => ∃ l28 k26  , gl_el9_1 a0 l28 k26  = some q24 ∧ n = l28.length ∧ (a0).drop k26 = l28 ∧ Pin t (ovr [(0, .ro (List.map eTag a0)), (3, .v (.int .i64 (k26 : Int)))] t) ∧ PinH o (ovh [] o)) _ ⟨_, _, h41, rfl, rfl, pin, pinh⟩ ?_
  rintro n t o ⟨l28, k26, h41, rfl, hd29, pq1, pq2⟩
  refine pinned pq1 pq2 ?_
  cases l28 with
  | nil =>
   have hge31 := drop_ge hd29
   rw [gl_el9_1] at h41
   refine go ?_;intros
   rw [hge31]
   refine go ?_;intros
   cases h41
   exact k_cn ⟨_, rfl, pin, pinh⟩
  | cons x27 l28 =>
   have hlt30 := drop_lt hd29
   have hx32 := drop_ix hd29
   have hw33 := drop_wr hd29 hf34
   rw [gl_el9_1] at h41
   refine go ?_;intros
   rw [hlt30]
   refine go ?_;intros
   refine r_iro rfl rfl hx32 rfl ?_
   obtain ⟨x35, h36, h41⟩ := bnd h41
   refine go ?_;intros
   refine c_call (c := c_eb9) (x27.key) H_eb9 h36 fun ch => ?_
   refine go ?_;intros
   refine s_split rfl (fun c => ?_) (fun c => ?_)
   ·replace h41 := itt h41 c
    rw [c]
    refine go ?_;intros
    cases h41
    replace h : some _ = some _ := h
    cases h
    exact r_end
   replace h41 := itf h41 c
   rw [c]
   refine go ?_;intros
   refine r_iro rfl rfl hx32 rfl ?_
   obtain ⟨x37, h38, h41⟩ := bnd h41
   refine go ?_;intros
   refine c_call (c := c_eb9) (x27.val) H_eb9 h38 fun ch => ?_
   refine go ?_;intros
   refine s_split rfl (fun c => ?_) (fun c => ?_)
   ·replace h41 := itt h41 c
    rw [c]
    refine go ?_;intros
    cases h41
    replace h : some _ = some _ := h
    cases h
    exact r_end
   replace h41 := itf h41 c
   rw [c]
   refine go ?_;intros
   refine s_split rfl (fun c => ?_) (fun c => ?_)
   ·replace h41 := itt h41 c
    rw [c]
    refine go ?_;intros
    refine r_iro rfl rfl hx32 rfl ?_
    obtain ⟨x39, h40, h41⟩ := bnd h41
    refine go ?_;intros
    refine r_iro rfl rfl h40 rfl ?_
    refine go ?_;intros
    refine w_cond rfl (fun c => ?_) (fun c => ?_)
    ·replace h41 := itt h41 c
     try rw [c]
     refine go ?_;intros
     cases h41
     replace h : some _ = some _ := h
     cases h
     exact r_end
    replace h41 := itf h41 c
    try rw [c]
    refine go ?_;intros
    rw [hw33]
    exact k_ln2 _ (Nat.lt_succ_self _) ⟨_, _, h41, rfl, drop_next hd29, pin, pinh⟩
   replace h41 := itf h41 c
   rw [c]
   refine go ?_;intros
   rw [hw33]
   exact k_ln2 _ (Nat.lt_succ_self _) ⟨_, _, h41, rfl, drop_next hd29, pin, pinh⟩
 rintro t o ⟨q24, rfl, pq1, pq2⟩
 refine pinnedQ pq1 pq2 ?_
 refine go ?_;intros
 cases h
 exact r_end
end Go.Proofs.AM
