/- Lemmas of the proof (KLF14), on an abstract machine. Conditions: none. -/
import Derived.Test.YtknajiljcemblabGreatKLD
set_option linter.unusedVariables false
set_option linter.unusedSimpArgs false
set_option maxRecDepth 100000
set_option maxHeartbeats 4000000
namespace Go.Proofs.AM
attribute [local irreducible] vwp vstps vstpLs vstp vdo vret kseq kblk kloop kend kcut kloop2 frzV renV shutK pfzV trnV unrV
theorem d_br9 {G : Gam} (H_ce9 : Has G c_ce9) (H_bu9 : Has G c_bu9) (H_bw9 : Has G c_bw9) (a0 : (List Feat)) (a1 : Int) (r : Int) (h : gf_br9 a0 a1 = some r) : Does G if_br9 ks_br9 (c_br9.args (a0, a1)) [] (c_br9.ans (a0, a1) r) := by
 refine does_pn (L := [(0, .ro (List.map (eFeat false) a0)), (1, .v (.int .i64 a1))]) (fun bs => pin) fun bs t o => ?_
 show vwp _ ib_br9 _ _
 unfold ib_br9
 refine w_ir ?_
 unfold gf_br9 at h
 obtain ⟨hf38, h⟩ := gd h
 obtain ⟨q27, h46, h⟩ := bnd h
 refine go ?_;intros
 refine w_last (fun t o => ∃ q27_, q27 = .inr q27_ ∧ Pin t (ovr [(1, .v (.int .i64 q27_))] t) ∧ PinH o (ovh [] o)) ?_ ?_
 ·refine w_loop2 (fun n t o => ∃ l32 k30 v28 , gl_br9_1 l32 k30 v28 = some q27 ∧ n = l32.length ∧ (a0).drop k30 = l32 ∧ Pin t (ovr [(0, .ro (List.map (eFeat false) a0)), (1, .v (.int .i64 v28)), (5, .v (.int .i64 (k30 : Int)))] t) ∧ PinH o (ovh [] o)) _ ⟨_, _, _, h46, rfl, rfl, pin, pinh⟩ ?_
  rintro n t o ⟨l32, k30, v28, h46, rfl, hd33, pq1, pq2⟩
  refine pinned pq1 pq2 ?_
  cases l32 with
  | nil =>
   have hge35 := drop_ge hd33
   rw [gl_br9_1] at h46
   refine go ?_;intros
   rw [hge35]
   refine go ?_;intros
   cases h46
   exact k_cn ⟨_, rfl, pin, pinh⟩
  | cons x31 l32 =>
   have hlt34 := drop_lt hd33
   have hx36 := drop_ix hd33
   have hw37 := drop_wr hd33 hf38
   rw [gl_br9_1] at h46
   refine go ?_;intros
   rw [hlt34]
   refine go ?_;intros
   refine r_iro rfl rfl hx36 rfl ?_
   obtain ⟨x39, h40, h46⟩ := bnd h46
   refine go ?_;intros
   refine c_call (c := c_ce9) (v28) H_ce9 h40 fun ch => ?_
   refine go ?_;intros
   refine w_cond rfl (fun c => ?_) (fun c => ?_)
   ·replace h46 := itt h46 c
    try rw [c]
    refine go ?_;intros
    cases h46
    replace h : some _ = some _ := h
    cases h
    exact r_end
   replace h46 := itf h46 c
   try rw [c]
   refine go ?_;intros
   refine r_iro rfl rfl hx36 rfl ?_
   refine go ?_;intros
   refine w_cond rfl (fun c => ?_) (fun c => ?_)
   ·replace h46 := itt h46 c
    try rw [c]
    refine go ?_;intros
    cases h46
    replace h : some _ = some _ := h
    cases h
    exact r_end
   replace h46 := itf h46 c
   try rw [c]
   refine go ?_;intros
   refine r_iro rfl rfl hx36 rfl ?_
   obtain ⟨x41, h42, h46⟩ := bnd h46
   refine go ?_;intros
   refine c_call (c := c_bu9) (x31.shape.pts, (IntKind.i64.wrap ((IntKind.i64.wrap (v28 + 1)) + 1))) H_bu9 h42 fun ch => ?_
   refine go ?_;intros
   refine w_cond rfl (fun c => ?_) (fun c => ?_)
   ·replace h46 := itt h46 c
    try rw [c]
    refine go ?_;intros
    cases h46
    replace h : some _ = some _ := h
    cases h
    exact r_end
   replace h46 := itf h46 c
   try rw [c]
   refine go ?_;intros
   refine r_iro rfl rfl hx36 rfl ?_
   obtain ⟨x43, h44, h46⟩ := bnd h46
   refine go ?_;intros
   refine c_call (c := c_bw9) (x31.tags, x41) H_bw9 h44 fun ch => ?_
   refine go ?_;intros
   refine w_cond rfl (fun c => ?_) (fun c => ?_)
   ·replace h46 := itt h46 c
    try rw [c]
    refine go ?_;intros
    cases h46
    replace h : some _ = some _ := h
    cases h
    exact r_end
   replace h46 := itf h46 c
   try rw [c]
   refine go ?_;intros
   rw [hw37]
   exact k_ln2 _ (Nat.lt_succ_self _) ⟨_, _, _, h46, rfl, drop_next hd33, pin, pinh⟩
 rintro t o ⟨q27, rfl, pq1, pq2⟩
 refine pinnedQ pq1 pq2 ?_
 refine go ?_;intros
 cases h
 exact r_end
theorem d_bq9 {G : Gam} (H_bt9 : Has G c_bt9) (H_br9 : Has G c_br9) (H_ce9 : Has G c_ce9) (a0 : (List Commit)) (a1 : Int) (r : Int) (h : gf_bq9 a0 a1 = some r) : Does G if_bq9 ks_bq9 (c_bq9.args (a0, a1)) [] (c_bq9.ans (a0, a1) r) := by
 refine does_pn (L := [(0, .ro (List.map (eCommit false) a0)), (1, .v (.int .i64 a1))]) (fun bs => pin) fun bs t o => ?_
 show vwp _ ib_bq9 _ _
 unfold ib_bq9
 refine w_ir ?_
 unfold gf_bq9 at h
 obtain ⟨hf38, h⟩ := gd h
 obtain ⟨q27, h46, h⟩ := bnd h
 refine go ?_;intros
 refine w_last (fun t o => ∃ q27_, q27 = .inr q27_ ∧ Pin t (ovr [(1, .v (.int .i64 q27_))] t) ∧ PinH o (ovh [] o)) ?_ ?_
 ·refine w_loop2 (fun n t o => ∃ l32 k30 v28 , gl_bq9_1 l32 k30 v28 = some q27 ∧ n = l32.length ∧ (a0).drop k30 = l32 ∧ Pin t (ovr [(0, .ro (List.map (eCommit false) a0)), (1, .v (.int .i64 v28)), (5, .v (.int .i64 (k30 : Int)))] t) ∧ PinH o (ovh [] o)) _ ⟨_, _, _, h46, rfl, rfl, pin, pinh⟩ ?_
  rintro n t o ⟨l32, k30, v28, h46, rfl, hd33, pq1, pq2⟩
  refine pinned pq1 pq2 ?_
  cases l32 with
  | nil =>
   have hge35 := drop_ge hd33
   rw [gl_bq9_1] at h46
   refine go ?_;intros
   rw [hge35]
   refine go ?_;intros
   cases h46
   exact k_cn ⟨_, rfl, pin, pinh⟩
  | cons x31 l32 =>
   have hlt34 := drop_lt hd33
   have hx36 := drop_ix hd33
   have hw37 := drop_wr hd33 hf38
   rw [gl_bq9_1] at h46
   refine go ?_;intros
   rw [hlt34]
   refine go ?_;intros
   refine r_iro rfl rfl hx36 rfl ?_
   obtain ⟨x39, h40, h46⟩ := bnd h46
   refine go ?_;intros
   refine c_call (c := c_bt9) (x31.up, v28) H_bt9 h40 fun ch => ?_
   refine go ?_;intros
   refine w_cond rfl (fun c => ?_) (fun c => ?_)
   ·replace h46 := itt h46 c
    try rw [c]
    refine go ?_;intros
    cases h46
    replace h : some _ = some _ := h
    cases h
    exact r_end
   replace h46 := itf h46 c
   try rw [c]
   refine go ?_;intros
   refine r_iro rfl rfl hx36 rfl ?_
   obtain ⟨x41, h42, h46⟩ := bnd h46
   refine go ?_;intros
   refine c_call (c := c_br9) (x31.sheet, x39) H_br9 h42 fun ch => ?_
   refine go ?_;intros
   refine w_cond rfl (fun c => ?_) (fun c => ?_)
   ·replace h46 := itt h46 c
    try rw [c]
    refine go ?_;intros
    cases h46
    replace h : some _ = some _ := h
    cases h
    exact r_end
   replace h46 := itf h46 c
   try rw [c]
   refine go ?_;intros
   refine r_iro rfl rfl hx36 rfl ?_
   obtain ⟨x43, h44, h46⟩ := bnd h46
   refine go ?_;intros
   refine c_call (c := c_ce9) (x41) H_ce9 h44 fun ch => ?_
   refine go ?_;intros
   refine w_cond rfl (fun c => ?_) (fun c => ?_)
   ·replace h46 := itt h46 c
    try rw [c]
    refine go ?_;intros
    cases h46
    replace h : some _ = some _ := h
    cases h
    exact r_end
   replace h46 := itf h46 c
   try rw [c]
   refine go ?_;intros
   rw [hw37]
   exact k_ln2 _ (Nat.lt_succ_self _) ⟨_, _, _, h46, rfl, drop_next hd33, pin, pinh⟩
 rintro t o ⟨q27, rfl, pq1, pq2⟩
 refine pinnedQ pq1 pq2 ?_
 refine go ?_;intros
 cases h
 exact r_end
theorem d_bs9 {G : Gam} (H_ce9 : Has G c_ce9) (a0 : (List Head)) (a1 : Int) (r : Int) (h : gf_bs9 a0 a1 = some r) : Does G if_bs9 ks_bs9 (c_bs9.args (a0, a1)) [] (c_bs9.ans (a0, a1) r) := by
 refine does_pn (L := [(0, .ro (List.map eHead a0)), (1, .v (.int .i64 a1))]) (fun bs => pin) fun bs t o => ?_
 show vwp _ ib_bs9 _ _
 unfold ib_bs9
 refine w_ir ?_
 unfold gf_bs9 at h
 obtain ⟨hf26, h⟩ := gd h
 obtain ⟨q15, h30, h⟩ := bnd h
 refine go ?_;intros
 refine w_last (fun t o => ∃ q15_, q15 = .inr q15_ ∧ Pin t (ovr [(1, .v (.int .i64 q15_))] t) ∧ PinH o (ovh [] o)) ?_ ?_
 ·refine w_loop2 (fun n t o => ∃ l20 k18 v16 , gl_bs9_1 l20 k18 v16 = some q15 ∧ n = l20.length ∧ (a0).drop k18 = l20 ∧ Pin t (ovr [(0, .ro (List.map eHead a0)), (1, .v (.int .i64 v16)), (5, .v (.int .i64 (k18 : Int)))] t) ∧ PinH o (ovh [] o)) _ ⟨_, _, _, h30, rfl, rfl, pin, pinh⟩ ?_
  rintro n t o ⟨l20, k18, v16, h30, rfl, hd21, pq1, pq2⟩
  refine pinned pq1 pq2 ?_
  cases l20 with
  | nil =>
   have hge23 := drop_ge hd21
   rw [gl_bs9_1] at h30
   refine go ?_;intros
   rw [hge23]
   refine go ?_;intros
   cases h30
   exact k_cn ⟨_, rfl, pin, pinh⟩
  | cons x19 l20 =>
   have hlt22 := drop_lt hd21
   have hx24 := drop_ix hd21
   have hw25 := drop_wr hd21 hf26
   rw [gl_bs9_1] at h30
   refine go ?_;intros
   rw [hlt22]
   refine go ?_;intros
   refine r_iro rfl rfl hx24 rfl ?_
   obtain ⟨x27, h28, h30⟩ := bnd h30
   refine go ?_;intros
   refine c_call (c := c_ce9) (v16) H_ce9 h28 fun ch => ?_
   refine go ?_;intros
   refine w_cond rfl (fun c => ?_) (fun c => ?_)
   ·replace h30 := itt h30 c
    try rw [c]
    refine go ?_;intros
    cases h30
    replace h : some _ = some _ := h
    cases h
    exact r_end
   replace h30 := itf h30 c
   try rw [c]
   refine go ?_;intros
   refine r_iro rfl rfl hx24 rfl ?_
   refine go ?_;intros
   refine w_cond rfl (fun c => ?_) (fun c => ?_)
   ·replace h30 := itt h30 c
    try rw [c]
    refine go ?_;intros
    cases h30
    replace h : some _ = some _ := h
    cases h
    exact r_end
   replace h30 := itf h30 c
   try rw [c]
   refine go ?_;intros
   rw [hw25]
   exact k_ln2 _ (Nat.lt_succ_self _) ⟨_, _, _, h30, rfl, drop_next hd21, pin, pinh⟩
 rintro t o ⟨q15, rfl, pq1, pq2⟩
 refine pinnedQ pq1 pq2 ?_
 refine go ?_;intros
 cases h
 exact r_end
theorem d_cn9 {G : Gam} (H_cg9 : Has G c_cg9) (H_ck9 : Has G c_ck9) (a0 : Repo) (a1 : Int) (r : Int) (h : gf_cn9 a0 a1 = some r) : Does G if_cn9 ks_cn9 (c_cn9.args (a0, a1)) [] (c_cn9.ans (a0, a1) r) := by
 refine does_pn (L := [(0, .agg [.ro (List.map (eCommit false) a0.commits), .ro (List.map eHead a0.heads)]), (1, .v (.int .i64 a1))]) (fun bs => pin) fun bs t o => ?_
 show vwp _ ib_cn9 _ _
 unfold ib_cn9
 refine w_ir ?_
 unfold gf_cn9 at h
 obtain ⟨x2, h3, h⟩ := bnd h
 refine go ?_;intros
 refine c_call (c := c_cg9) (a0.commits, a1) H_cg9 h3 fun ch => ?_
 refine go ?_;intros
 refine w_cond rfl (fun c => ?_) (fun c => ?_)
 ·replace h := itt h c
  try rw [c]
  refine go ?_;intros
  cases h
  exact r_end
 replace h := itf h c
 try rw [c]
 obtain ⟨x4, h5, h⟩ := bnd h
 refine go ?_;intros
 refine c_call (c := c_ck9) (a0.heads, x2) H_ck9 h5 fun ch => ?_
 refine go ?_;intros
 refine w_cond rfl (fun c => ?_) (fun c => ?_)
 ·replace h := itt h c
  try rw [c]
  refine go ?_;intros
  cases h
  exact r_end
 replace h := itf h c
 try rw [c]
 refine go ?_;intros
 cases h
 exact r_end
theorem d_da9 {G : Gam} (H_cs9 : Has G c_cs9) (H_cw9 : Has G c_cw9) (a0 : Repo) (r : Repo) (h : gf_da9 a0 = some r) : Does G if_da9 ks_da9 (c_da9.args (a0)) [] (c_da9.ans (a0) r) := by
 refine does_pn (L := [(0, .agg [.ro (List.map (eCommit false) a0.commits), .ro (List.map eHead a0.heads)])]) (fun bs => pin) fun bs t o => ?_
 show vwp _ ib_da9 _ _
 unfold ib_da9
 refine w_ir ?_
 unfold gf_da9 at h
 obtain ⟨x4, h5, h⟩ := bnd h
 refine go ?_;intros
 refine c_call (c := c_cs9) (a0.commits) H_cs9 h5 fun ch => ?_
 obtain ⟨x8, h9, h⟩ := bnd h
 refine go ?_;intros
 refine c_call (c := c_cw9) (a0.heads) H_cw9 h9 fun ch => ?_
 refine go ?_;intros
 cases h
 exact r_end
theorem d_bm9 {G : Gam} (H_be9 : Has G c_be9) (H_bi9 : Has G c_bi9) (a0 : Repo) (a1 : Repo) (r : Bool) (h : gf_bm9 a0 a1 = some r) : Does G if_bm9 ks_bm9 (c_bm9.args (a0, a1)) [] (c_bm9.ans (a0, a1) r) := by
 refine does_pn (L := [(0, .agg [.ro (List.map (eCommit false) a0.commits), .ro (List.map eHead a0.heads)]), (1, .agg [.ro (List.map (eCommit false) a1.commits), .ro (List.map eHead a1.heads)])]) (fun bs => pin) fun bs t o => ?_
 show vwp _ ib_bm9 _ _
 unfold ib_bm9
 refine w_ir ?_
 unfold gf_bm9 at h
 obtain ⟨x3, h4, h⟩ := bnd h
 refine go ?_;intros
 refine c_call (c := c_be9) (a0.commits, a1.commits) H_be9 h4 fun ch => ?_
 refine go ?_;intros
 refine w_cond rfl (fun c => ?_) (fun c => ?_)
 ·replace h := itt h c
  try rw [c]
  refine go ?_;intros
  cases h
  exact r_end
 replace h := itf h c
 try rw [c]
 obtain ⟨x5, h6, h⟩ := bnd h
 refine go ?_;intros
 refine c_call (c := c_bi9) (a0.heads, a1.heads) H_bi9 h6 fun ch => ?_
 refine go ?_;intros
 refine w_cond rfl (fun c => ?_) (fun c => ?_)
 ·replace h := itt h c
  try rw [c]
  refine go ?_;intros
  cases h
  exact r_end
 replace h := itf h c
 try rw [c]
 refine go ?_;intros
 cases h
 exact r_end
theorem d_cc9 {G : Gam} (H_bx9 : Has G c_bx9) (H_bz9 : Has G c_bz9) (a0 : Repo) (a1 : Int) (r : (Int × Repo)) (h : gf_cc9 a0 a1 = some r) : Does G if_cc9 ks_cc9 (c_cc9.args (a0, a1)) (c_cc9.ins (a0, a1)) (c_cc9.ans (a0, a1) r) := by
 refine does_pg (L := fun bs => [(0, .agg [.ref 0 (bs 0).1 (bs 0).2 0 a0.commits.length 115, .ref 8 (bs 1).1 (bs 1).2 0 a0.heads.length 130]), (1, .v (.int .i64 a1))]) (H := fun bs => [(0, ent (bs 0).1 (bs 0).2 115 (List.map (eCommit true) a0.commits)), (8, ent (bs 1).1 (bs 1).2 130 (List.map eHead a0.heads))]) (fun bs => pin) (fun bs => pinh) fun bs t o => ?_
 show vwp _ ib_cc9 _ _
 unfold ib_cc9
 refine w_ir ?_
 unfold gf_cc9 at h
 obtain ⟨x2, h3, h⟩ := bnd h
 refine go ?_;intros
 have L3 := l_bx9 h3; (try dsimp only at L3); refine c_callg (c := c_bx9) (a0.commits, a1) H_bx9 h3 fun ch => ?_
 obtain ⟨x4, h5, h⟩ := bnd h
 refine go ?_;intros
 have L5 := l_bz9 h5; (try dsimp only at L5); refine c_callg (c := c_bz9) (a0.heads, x2.1) H_bz9 h5 fun ch => ?_
 refine go ?_;intros
 cases h
 exact r_endg
theorem d_bv9 {G : Gam} (H_bq9 : Has G c_bq9) (H_bs9 : Has G c_bs9) (a0 : Repo) (a1 : Int) (r : Int) (h : gf_bv9 a0 a1 = some r) : Does G if_bv9 ks_bv9 (c_bv9.args (a0, a1)) [] (c_bv9.ans (a0, a1) r) := by
 refine does_pn (L := [(0, .agg [.ro (List.map (eCommit false) a0.commits), .ro (List.map eHead a0.heads)]), (1, .v (.int .i64 a1))]) (fun bs => pin) fun bs t o => ?_
 show vwp _ ib_bv9 _ _
 unfold ib_bv9
 refine w_ir ?_
 unfold gf_bv9 at h
 obtain ⟨x2, h3, h⟩ := bnd h
 refine go ?_;intros
 refine c_call (c := c_bq9) (a0.commits, a1) H_bq9 h3 fun ch => ?_
 refine go ?_;intros
 refine w_cond rfl (fun c => ?_) (fun c => ?_)
 ·replace h := itt h c
  try rw [c]
  refine go ?_;intros
  cases h
  exact r_end
 replace h := itf h c
 try rw [c]
 obtain ⟨x4, h5, h⟩ := bnd h
 refine go ?_;intros
 refine c_call (c := c_bs9) (a0.heads, x2) H_bs9 h5 fun ch => ?_
 refine go ?_;intros
 refine w_cond rfl (fun c => ?_) (fun c => ?_)
 ·replace h := itt h c
  try rw [c]
  refine go ?_;intros
  cases h
  exact r_end
 replace h := itf h c
 try rw [c]
 refine go ?_;intros
 cases h
 exact r_end
theorem d_ee9 {G : Gam} (fuel : Nat) (H_dz9 : Has G c_dz9) (H_ee9 : Has G (c_ee9 fuel)) (a0 : Repo) (a1 : Int) (a2 : Repo) (a3 : Int) (r : Bool) (h : gf_ee9 (fuel + 1) a0 a1 a2 a3 = some r) : Does G if_ee9 ks_ee9 ((c_ee9 (fuel + 1)).args (a0, a1, a2, a3)) [] ((c_ee9 (fuel + 1)).ans (a0, a1, a2, a3) r) := by
 refine does_pn (L := [(0, .agg [.ro (List.map (eCommit false) a0.commits), .ro (List.map eHead a0.heads)]), (1, .v (.int .i64 a1)), (2, .agg [.ro (List.map (eCommit false) a2.commits), .ro (List.map eHead a2.heads)]), (3, .v (.int .i64 a3))]) (fun bs => pin) fun bs t o => ?_
 show vwp _ ib_ee9 _ _
 unfold ib_ee9
 refine w_ir ?_
 replace h : gb_ee9 (gf_ee9 fuel) a0 a1 a2 a3 = some r := h
 unfold gb_ee9 at h
 obtain ⟨x3, h4, h⟩ := bnd h
 refine go ?_;intros
 refine r_iro rfl rfl h4 rfl ?_
 obtain ⟨x6, h7, h⟩ := bnd h
 refine go ?_;intros
 refine r_iro rfl rfl h7 rfl ?_
 refine go ?_;intros
 refine s_split rfl (fun c => ?_) (fun c => ?_)
 ·replace h := itt h c
  rw [c]
  refine go ?_;intros
  cases h
  exact r_end
 replace h := itf h c
 rw [c]
 refine go ?_;intros
 refine s_split rfl (fun c => ?_) (fun c => ?_)
 ·replace h := itt h (by first | exact c | (have c2 := c; simp only [List.length_map] at c2; exact c2))
  rw [c]
  refine go ?_;intros
  cases h
  exact r_end
 replace h := itf h (by first | exact c | (have c2 := c; simp only [List.length_map] at c2; exact c2))
 rw [c]
 obtain ⟨x9, h10, h⟩ := bnd h
 refine go ?_;intros
 refine c_call (c := c_dz9) (x3.sheet, x6.sheet) H_dz9 h10 fun ch => ?_
 refine go ?_;intros
 refine w_cond rfl (fun c => ?_) (fun c => ?_)
 ·replace h := itt h c
  try rw [c]
  refine go ?_;intros
  cases h
  exact r_end
 replace h := itf h c
 try rw [c]
 obtain ⟨hf52, h⟩ := gd h
 obtain ⟨q38, h57, h⟩ := bnd h
 refine go ?_;intros
 refine w_last (fun t o => ∃ q38_, q38 = .inr q38_ ∧ Pin t (ovr [] t) ∧ PinH o (ovh [] o)) ?_ ?_
 ·refine w_loop2 (fun n t o => ∃ l46 k44  b40 b41 b42 b43, gl_ee9_1 x6 (gf_ee9 fuel) a0 a2 l46 k44  = some q38 ∧ n = l46.length ∧ (x3.up).drop k44 = l46 ∧ Pin t (ovr [(4, .ptr 32 b40 210 0 0), (6, .ptr 48 b41 210 0 0), (9, .ptr 72 b42 115 0 0), (10, .ptr 80 b43 115 0 0), (11, .v (.int .i64 (k44 : Int)))] t) ∧ PinH o (ovh [(32, ⟨b40, 1, 210, true, [[.sl false 3 (List.map (eCommit false) a0.commits), .sl false 2 (List.map eHead a0.heads)]]⟩), (48, ⟨b41, 1, 210, true, [[.sl false 3 (List.map (eCommit false) a2.commits), .sl false 2 (List.map eHead a2.heads)]]⟩), (72, ⟨b42, 1, 115, true, [[.sl false 1 (List.map eInt x3.up), .sl false 4 (List.map (eFeat false) x3.sheet), .v (.string x3.note)]]⟩), (80, ⟨b43, 1, 115, true, [[.sl false 1 (List.map eInt x6.up), .sl false 4 (List.map (eFeat false) x6.sheet), .v (.string x6.note)]]⟩)] o)) _ ⟨_, _, _, _, _, _, h57, rfl, rfl, pin, pinh⟩ ?_
  rintro n t o ⟨l46, k44, b40, b41, b42, b43, h57, rfl, hd47, pq1, pq2⟩
  refine pinned pq1 pq2 ?_
  cases l46 with
  | nil =>
   have hge49 := drop_ge hd47
   rw [gl_ee9_1] at h57
   refine go ?_;intros
   rw [hge49]
   refine go ?_;intros
   cases h57
   exact k_cn ⟨_, rfl, pin, pinh⟩
  | cons x45 l46 =>
   have hlt48 := drop_lt hd47
   have hx50 := drop_ix hd47
   have hw51 := drop_wr hd47 hf52
   rw [gl_ee9_1] at h57
   refine go ?_;intros
   rw [hlt48]
   refine go ?_;intros
   refine r_iro rfl rfl hx50 rfl ?_
   obtain ⟨x53, h54, h57⟩ := bnd h57
   refine go ?_;intros
   refine r_iro rfl rfl h54 rfl ?_
   obtain ⟨x55, h56, h57⟩ := bnd h57
   refine go ?_;intros
   refine c_call (c := (c_ee9 fuel)) (a0, x45, a2, x53) H_ee9 h56 fun ch => ?_
   refine go ?_;intros
   refine w_cond rfl (fun c => ?_) (fun c => ?_)
   ·replace h57 := itt h57 c
    try rw [c]
    refine go ?_;intros
    cases h57
    replace h : some _ = some _ := h
    cases h
    exact r_end
   replace h57 := itf h57 c
   try rw [c]
   refine go ?_;intros
   rw [hw51]
   exact k_ln2 _ (Nat.lt_succ_self _) ⟨_, _, _, _, _, _, h57, rfl, drop_next hd47, pin, pinh⟩
 rintro t o ⟨q38, rfl, pq1, pq2⟩
 refine pinnedQ pq1 pq2 ?_
 refine go ?_;intros
 cases h
 exact r_end
theorem d_at9 {G : Gam} (H_am9 : Has G c_am9) (a0 : Repo) (a1 : Repo) (r : (List (List Bool))) (h : gf_at9 a0 a1 = some r) : Does G if_at9 ks_at9 (c_at9.args (a0, a1)) [] (c_at9.ans (a0, a1) r) := by
 refine does_pn (L := [(0, .agg [.ro (List.map (eCommit false) a0.commits), .ro (List.map eHead a0.heads)]), (1, .agg [.ro (List.map (eCommit false) a1.commits), .ro (List.map eHead a1.heads)])]) (fun bs => pin) fun bs t o => ?_
 show vwp _ ib_at9 _ _
 unfold ib_at9
 refine w_ir ?_
 unfold gf_at9 at h
 obtain ⟨h5, h⟩ := gd h
 refine go ?_;intros
 refine r_mks (f := (eSl true 33 eBool)) (x := ([] : (List Bool))) rfl rfl (band1 h5) (band2 h5) rfl fun b3 => ?_
 obtain ⟨hf1720, h⟩ := gd h
 obtain ⟨q1706, h2286, h⟩ := bnd h
 refine go ?_;intros
 refine w_last (fun t o => ∃ b2284 c2285, Pin t (ovr [(5, .ref 120 b2284 c2285 0 q1706.length 241)] t) ∧ PinH o (ovh [(120, ent b2284 c2285 241 (List.map (eSl true 33 eBool) q1706))] o)) ?_ ?_
 ·refine w_loop2 (fun n t o => ∃ l1714 k1712 v1709 b1708 b1710 c1711, gl_at9_40 a1 l1714 k1712 v1709 = some q1706 ∧ n = l1714.length ∧ (a0.commits).drop k1712 = l1714 ∧ Pin t (ovr [(3, .ptr 24 b1708 210 0 0), (5, .ref 120 b1710 c1711 0 v1709.length 241), (17, .ro (List.map (eCommit false) a0.commits)), (18, .v (.int .i64 (a0.commits.length : Int))), (19, .v (.int .i64 (k1712 : Int)))] t) ∧ PinH o (ovh [(24, ⟨b1708, 1, 210, true, [[.sl false 3 (List.map (eCommit false) a1.commits), .sl false 2 (List.map eHead a1.heads)]]⟩), (120, ent b1710 c1711 241 (List.map (eSl true 33 eBool) v1709))] o)) _ ⟨_, _, _, _, _, _, h2286, rfl, rfl, pin, pinh⟩ ?_
  rintro n t o ⟨l1714, k1712, v1709, b1708, b1710, c1711, h2286, rfl, hd1715, pq1, pq2⟩
  refine pinned pq1 pq2 ?_
  cases l1714 with
  | nil =>
   have hge1717 := drop_ge hd1715
   rw [gl_at9_40] at h2286
   refine go ?_;intros
   rw [hge1717]
   refine go ?_;intros
   cases h2286
   exact k_cn ⟨_, _, pin, pinh⟩
  | cons x1713 l1714 =>
   have hlt1716 := drop_lt hd1715
   have hx1718 := drop_ix hd1715
   have hw1719 := drop_wr hd1715 hf1720
   rw [gl_at9_40] at h2286
   refine go ?_;intros
   rw [hlt1716]
   refine go ?_;intros
   refine r_iro rfl rfl hx1718 rfl ?_
   obtain ⟨h1724, h2286⟩ := gd h2286
   refine go ?_;intros
   refine r_mks (f := eBool) (x := false) rfl rfl (band1 h1724) (band2 h1724) rfl fun b1722 => ?_
   obtain ⟨x1725, h1726, h2286⟩ := bnd h2286
   refine go ?_;intros
   refine r_ire (xs := v1709) rfl rfl h1726 rfl ?_
   refine go ?_;intros
   refine c_ste (f := (eSl true 33 eBool)) v1709 (List.replicate ((a1.commits.length : Int)).toNat false) (idx_get h1726).2 ?_
   obtain ⟨hf2148, h2286⟩ := gd h2286
   obtain ⟨q2133, h2287, h2286⟩ := bnd h2286
   refine go ?_;intros
   refine w_last (fun t o => ∃ b2279 b2281 c2282, Pin t (ovr [(3, .ptr 24 b2279 210 0 0), (5, .ref 120 b2281 c2282 0 q2133.length 241), (17, .ro (List.map (eCommit false) a0.commits)), (18, .v (.int .i64 (a0.commits.length : Int))), (19, .v (.int .i64 (k1712 : Int)))] t) ∧ PinH o (ovh [(24, ⟨b2279, 1, 210, true, [[.sl false 3 (List.map (eCommit false) a1.commits), .sl false 2 (List.map eHead a1.heads)]]⟩), (120, ent b2281 c2282 241 (List.map (eSl true 33 eBool) q2133))] o)) ?_ ?_
   ·refine w_loop2 (fun n t o => ∃ l2142 k2140 v2136 b2135 b2137 c2138 b2139, gl_at9_50 x1713 k1712 l2142 k2140 v2136 = some q2133 ∧ n = l2142.length ∧ (a1.commits).drop k2140 = l2142 ∧ Pin t (ovr [(3, .ptr 24 b2135 210 0 0), (5, .ref 120 b2137 c2138 0 v2136.length 241), (6, .v (.int .i64 (k1712 : Int))), (7, .ptr 56 b2139 115 0 0), (17, .ro (List.map (eCommit false) a0.commits)), (18, .v (.int .i64 (a0.commits.length : Int))), (19, .v (.int .i64 (k1712 : Int))), (32, .ro (List.map (eCommit false) a1.commits)), (33, .v (.int .i64 (a1.commits.length : Int))), (34, .v (.int .i64 (k2140 : Int)))] t) ∧ PinH o (ovh [(24, ⟨b2135, 1, 210, true, [[.sl false 3 (List.map (eCommit false) a1.commits), .sl false 2 (List.map eHead a1.heads)]]⟩), (120, ent b2137 c2138 241 (List.map (eSl true 33 eBool) v2136)), (56, ⟨b2139, 1, 115, true, [[.sl false 1 (List.map eInt x1713.up), .sl false 4 (List.map (eFeat false) x1713.sheet), .v (.string x1713.note)]]⟩)] o)) _ ⟨_, _, _, _, _, _, _, h2287, rfl, rfl, pin, pinh⟩ ?_
    rintro n t o ⟨l2142, k2140, v2136, b2135, b2137, c2138, b2139, h2287, rfl, hd2143, pq1, pq2⟩
    refine pinned pq1 pq2 ?_
    cases l2142 with
    | nil =>
     have hge2145 := drop_ge hd2143
     rw [gl_at9_50] at h2287
     refine go ?_;intros
     rw [hge2145]
     refine go ?_;intros
     cases h2287
     exact k_cn ⟨_, _, _, pin, pinh⟩
    | cons x2141 l2142 =>
     have hlt2144 := drop_lt hd2143
     have hx2146 := drop_ix hd2143
     have hw2147 := drop_wr hd2143 hf2148
     rw [gl_at9_50] at h2287
     refine go ?_;intros
     rw [hlt2144]
     refine go ?_;intros
     refine r_iro rfl rfl hx2146 rfl ?_
     refine go ?_;intros
     refine s_split rfl (fun c => ?_) (fun c => ?_)
     ·replace h2287 := itt h2287 c
      rw [c]
      obtain ⟨x2150, h2151, h2287⟩ := bnd h2287
      refine go ?_;intros
      refine c_call (c := c_am9) (x1713.sheet, x2141.sheet) H_am9 h2151 fun ch => ?_
      refine go ?_;intros
      refine s_split rfl (fun c => ?_) (fun c => ?_)
      ·replace h2287 := itt h2287 c
       rw [c]
       obtain ⟨hf2212, h2287⟩ := gd h2287
       obtain ⟨q2195, h2288, h2287⟩ := bnd h2287
       refine go ?_;intros
       refine w_last (fun t o => ∃ b2223 b2224 c2225 b2226 b2227, Pin t (ovr [(3, .ptr 24 b2223 210 0 0), (5, .ref 120 b2224 c2225 0 v2136.length 241), (6, .v (.int .i64 (k1712 : Int))), (7, .ptr 56 b2226 115 0 0), (8, .v (.int .i64 (k2140 : Int))), (10, .v (.bool q2195.1)), (17, .ro (List.map (eCommit false) a0.commits)), (18, .v (.int .i64 (a0.commits.length : Int))), (19, .v (.int .i64 (k1712 : Int))), (32, .ro (List.map (eCommit false) a1.commits)), (33, .v (.int .i64 (a1.commits.length : Int))), (34, .v (.int .i64 (k2140 : Int))), (45, .ptr 56 b2226 115 0 1), (46, .ro (List.map (eFeat false) x1713.sheet)), (47, .ptr 72 b2227 115 0 1), (48, .ro (List.map (eFeat false) x2141.sheet)), (49, .v (.bool true)), (52, .ptr 56 b2226 115 0 0), (53, .ro (List.map eInt x1713.up)), (54, .v (.int .i64 (x1713.up.length : Int))), (55, .ptr 72 b2227 115 0 0), (56, .ro (List.map eInt x2141.up)), (57, .v (.int .i64 (x2141.up.length : Int))), (58, .v (.bool q2195.2))] t) ∧ PinH o (ovh [(24, ⟨b2223, 1, 210, true, [[.sl false 3 (List.map (eCommit false) a1.commits), .sl false 2 (List.map eHead a1.heads)]]⟩), (120, ent b2224 c2225 241 (List.map (eSl true 33 eBool) v2136)), (56, ⟨b2226, 1, 115, true, [[.sl false 1 (List.map eInt x1713.up), .sl false 4 (List.map (eFeat false) x1713.sheet), .v (.string x1713.note)]]⟩), (72, ⟨b2227, 1, 115, true, [[.sl false 1 (List.map eInt x2141.up), .sl false 4 (List.map (eFeat false) x2141.sheet), .v (.string x2141.note)]]⟩)] o)) ?_ ?_
       ·refine w_loop2 (fun n t o => ∃ l2206 k2204 v2196 v2198 b2199 b2200 c2201 b2202 b2203, gl_at9_51 v2136 x2141 l2206 k2204 v2196 v2198 = some q2195 ∧ n = l2206.length ∧ (x1713.up).drop k2204 = l2206 ∧ Pin t (ovr [(3, .ptr 24 b2199 210 0 0), (5, .ref 120 b2200 c2201 0 v2136.length 241), (6, .v (.int .i64 (k1712 : Int))), (7, .ptr 56 b2202 115 0 0), (8, .v (.int .i64 (k2140 : Int))), (9, .ptr 72 b2203 115 0 0), (10, .v (.bool v2196)), (11, .v (.int .i64 (k2204 : Int))), (17, .ro (List.map (eCommit false) a0.commits)), (18, .v (.int .i64 (a0.commits.length : Int))), (19, .v (.int .i64 (k1712 : Int))), (32, .ro (List.map (eCommit false) a1.commits)), (33, .v (.int .i64 (a1.commits.length : Int))), (34, .v (.int .i64 (k2140 : Int))), (45, .ptr 56 b2202 115 0 1), (46, .ro (List.map (eFeat false) x1713.sheet)), (47, .ptr 72 b2203 115 0 1), (48, .ro (List.map (eFeat false) x2141.sheet)), (49, .v (.bool true)), (52, .ptr 56 b2202 115 0 0), (53, .ro (List.map eInt x1713.up)), (54, .v (.int .i64 (x1713.up.length : Int))), (55, .ptr 72 b2203 115 0 0), (56, .ro (List.map eInt x2141.up)), (57, .v (.int .i64 (x2141.up.length : Int))), (58, .v (.bool v2198))] t) ∧ PinH o (ovh [(24, ⟨b2199, 1, 210, true, [[.sl false 3 (List.map (eCommit false) a1.commits), .sl false 2 (List.map eHead a1.heads)]]⟩), (120, ent b2200 c2201 241 (List.map (eSl true 33 eBool) v2136)), (56, ⟨b2202, 1, 115, true, [[.sl false 1 (List.map eInt x1713.up), .sl false 4 (List.map (eFeat false) x1713.sheet), .v (.string x1713.note)]]⟩), (72, ⟨b2203, 1, 115, true, [[.sl false 1 (List.map eInt x2141.up), .sl false 4 (List.map (eFeat false) x2141.sheet), .v (.string x2141.note)]]⟩)] o)) _ ⟨_, _, _, _, _, _, _, _, _, h2288, rfl, rfl, pin, pinh⟩ ?_
        rintro n t o ⟨l2206, k2204, v2196, v2198, b2199, b2200, c2201, b2202, b2203, h2288, rfl, hd2207, pq1, pq2⟩
        refine pinned pq1 pq2 ?_
        cases l2206 with
        | nil =>
         have hge2209 := drop_ge hd2207
         rw [gl_at9_51] at h2288
         refine go ?_;intros
         rw [hge2209]
         refine go ?_;intros
         cases h2288
         exact k_cn ⟨_, _, _, _, _, pin, pinh⟩
        | cons x2205 l2206 =>
         have hlt2208 := drop_lt hd2207
         have hx2210 := drop_ix hd2207
         have hw2211 := drop_wr hd2207 hf2212
         rw [gl_at9_51] at h2288
         refine go ?_;intros
         rw [hlt2208]
         refine go ?_;intros
         refine w_cond rfl (fun c => ?_) (fun c => ?_)
         ·replace h2288 := itt h2288 c
          try rw [c]
          refine go ?_;intros
          refine r_iro rfl rfl hx2210 rfl ?_
          obtain ⟨x2213, h2214, h2288⟩ := bnd h2288
          refine go ?_;intros
          refine r_ire (xs := v2136) rfl rfl h2214 rfl ?_
          refine go ?_;intros
          refine r_lop (f := (eSl true 33 eBool)) (g := eBool) (xs := v2136) (x := x2213) (idx_get h2214).2 rfl rfl rfl fun b2215 c2216 => ?_
          obtain ⟨x2217, h2218, h2288⟩ := bnd h2288
          refine go ?_;intros
          refine r_iro rfl rfl h2218 rfl ?_
          obtain ⟨x2219, h2220, h2288⟩ := bnd h2288
          refine go ?_;intros
          refine r_ire (xs := x2213) rfl rfl h2220 rfl ?_
          refine go ?_;intros
          refine r_shut ?_
          refine go ?_;intros
          refine r_lde (f := eBool) (xs := x2213) (x := x2219) rfl rfl (idx_get h2220).2 rfl rfl rfl ?_
          refine go ?_;intros
          refine k_sh0 (f := (eSl true 33 eBool)) (g := eBool) (idx_get h2214).2 ?_
          refine go ?_;intros
          rw [hw2211]
          exact k_ln2 _ (Nat.lt_succ_self _) ⟨_, _, _, _, _, _, _, _, _, h2288, rfl, drop_next hd2207, pin, pinh⟩
         replace h2288 := itf h2288 c
         try rw [c]
         refine go ?_;intros
         cases h2288
         exact k_cn ⟨_, _, _, _, _, pin, pinh⟩
       rintro t o ⟨b2223, b2224, c2225, b2226, b2227, pq1, pq2⟩
       refine pinnedQ pq1 pq2 ?_
       obtain ⟨x2228, h2229, h2287⟩ := bnd h2287
       refine go ?_;intros
       refine r_ire (xs := v2136) rfl rfl h2229 rfl ?_
       refine go ?_;intros
       refine r_lop (f := (eSl true 33 eBool)) (g := eBool) (xs := v2136) (x := x2228) (idx_get h2229).2 rfl rfl rfl fun b2230 c2231 => ?_
       obtain ⟨x2232, h2233, h2287⟩ := bnd h2287
       refine go ?_;intros
       refine r_ire (xs := x2228) rfl rfl h2233 rfl ?_
       refine go ?_;intros
       refine r_shut ?_
       refine go ?_;intros
       refine c_ste (f := eBool) x2228 q2195.1 (idx_get h2233).2 ?_
       refine go ?_;intros
       refine k_sh (f := (eSl true 33 eBool)) (g := eBool) (List.set x2228 (k2140 : Int).toNat q2195.1) (idx_get h2229).2 ?_
       refine go ?_;intros
       rw [hw2147]
       exact k_ln2 _ (Nat.lt_succ_self _) ⟨_, _, _, _, _, _, _, h2287, rfl, drop_next hd2143, pin, pinh⟩
      replace h2287 := itf h2287 c
      rw [c]
      obtain ⟨q2239, h2289, h2287⟩ := bnd h2287
      refine go ?_;intros
      refine w_last (fun t o => ∃ b2246 b2247 c2248 b2249 b2250, Pin t (ovr [(3, .ptr 24 b2246 210 0 0), (5, .ref 120 b2247 c2248 0 v2136.length 241), (6, .v (.int .i64 (k1712 : Int))), (7, .ptr 56 b2249 115 0 0), (8, .v (.int .i64 (k2140 : Int))), (10, .v (.bool false)), (17, .ro (List.map (eCommit false) a0.commits)), (18, .v (.int .i64 (a0.commits.length : Int))), (19, .v (.int .i64 (k1712 : Int))), (32, .ro (List.map (eCommit false) a1.commits)), (33, .v (.int .i64 (a1.commits.length : Int))), (34, .v (.int .i64 (k2140 : Int))), (45, .ptr 56 b2249 115 0 1), (46, .ro (List.map (eFeat false) x1713.sheet)), (47, .ptr 72 b2250 115 0 1), (48, .ro (List.map (eFeat false) x2141.sheet)), (49, .v (.bool false))] t) ∧ PinH o (ovh [(24, ⟨b2246, 1, 210, true, [[.sl false 3 (List.map (eCommit false) a1.commits), .sl false 2 (List.map eHead a1.heads)]]⟩), (120, ent b2247 c2248 241 (List.map (eSl true 33 eBool) v2136)), (56, ⟨b2249, 1, 115, true, [[.sl false 1 (List.map eInt x1713.up), .sl false 4 (List.map (eFeat false) x1713.sheet), .v (.string x1713.note)]]⟩), (72, ⟨b2250, 1, 115, true, [[.sl false 1 (List.map eInt x2141.up), .sl false 4 (List.map (eFeat false) x2141.sheet), .v (.string x2141.note)]]⟩)] o)) ?_ ?_
      ·refine w_loop2 (fun n t o => ∃ n2245  b2240 b2241 c2242 b2243 b2244, gl_at9_52 x1713 n2245  = some q2239 ∧ n2245 = n ∧ Pin t (ovr [(3, .ptr 24 b2240 210 0 0), (5, .ref 120 b2241 c2242 0 v2136.length 241), (6, .v (.int .i64 (k1712 : Int))), (7, .ptr 56 b2243 115 0 0), (8, .v (.int .i64 (k2140 : Int))), (9, .ptr 72 b2244 115 0 0), (10, .v (.bool false)), (11, .v (.int .i64 0)), (17, .ro (List.map (eCommit false) a0.commits)), (18, .v (.int .i64 (a0.commits.length : Int))), (19, .v (.int .i64 (k1712 : Int))), (32, .ro (List.map (eCommit false) a1.commits)), (33, .v (.int .i64 (a1.commits.length : Int))), (34, .v (.int .i64 (k2140 : Int))), (45, .ptr 56 b2243 115 0 1), (46, .ro (List.map (eFeat false) x1713.sheet)), (47, .ptr 72 b2244 115 0 1), (48, .ro (List.map (eFeat false) x2141.sheet)), (49, .v (.bool false))] t) ∧ PinH o (ovh [(24, ⟨b2240, 1, 210, true, [[.sl false 3 (List.map (eCommit false) a1.commits), .sl false 2 (List.map eHead a1.heads)]]⟩), (120, ent b2241 c2242 241 (List.map (eSl true 33 eBool) v2136)), (56, ⟨b2243, 1, 115, true, [[.sl false 1 (List.map eInt x1713.up), .sl false 4 (List.map (eFeat false) x1713.sheet), .v (.string x1713.note)]]⟩), (72, ⟨b2244, 1, 115, true, [[.sl false 1 (List.map eInt x2141.up), .sl false 4 (List.map (eFeat false) x2141.sheet), .v (.string x2141.note)]]⟩)] o)) _ ⟨_, _, _, _, _, _, h2289, rfl, pin, pinh⟩ ?_
       rintro n t o ⟨n2245, b2240, b2241, c2242, b2243, b2244, h2289, rfl, pq1, pq2⟩
       refine pinned pq1 pq2 ?_
       cases n2245 with
       | zero => rw [gl_at9_52] at h2289; cases h2289
       | succ n2245 =>
        rw [gl_at9_52] at h2289
        refine go ?_;intros
        refine s_split rfl (fun c => ?_) (fun c => ?_)
        ·replace h2289 := itt h2289 (by first | exact c | (have c2 := c; simp only [List.length_map] at c2; exact c2))
         rw [c]
         refine go ?_;intros
         cases h2289
         exact k_cn ⟨_, _, _, _, _, pin, pinh⟩
        replace h2289 := itf h2289 (by first | exact c | (have c2 := c; simp only [List.length_map] at c2; exact c2))
        rw [c]
        refine go ?_;intros
        cases h2289
        exact k_cn ⟨_, _, _, _, _, pin, pinh⟩
      rintro t o ⟨b2246, b2247, c2248, b2249, b2250, pq1, pq2⟩
      refine pinnedQ pq1 pq2 ?_
      obtain ⟨x2251, h2252, h2287⟩ := bnd h2287
      refine go ?_;intros
      refine r_ire (xs := v2136) rfl rfl h2252 rfl ?_
      refine go ?_;intros
      refine r_lop (f := (eSl true 33 eBool)) (g := eBool) (xs := v2136) (x := x2251) (idx_get h2252).2 rfl rfl rfl fun b2253 c2254 => ?_
      obtain ⟨x2255, h2256, h2287⟩ := bnd h2287
      refine go ?_;intros
      refine r_ire (xs := x2251) rfl rfl h2256 rfl ?_
      refine go ?_;intros
      refine r_shut ?_
      refine go ?_;intros
      refine c_ste (f := eBool) x2251 false (idx_get h2256).2 ?_
      refine go ?_;intros
      refine k_sh (f := (eSl true 33 eBool)) (g := eBool) (List.set x2251 (k2140 : Int).toNat false) (idx_get h2252).2 ?_
      refine go ?_;intros
      rw [hw2147]
      exact k_ln2 _ (Nat.lt_succ_self _) ⟨_, _, _, _, _, _, _, h2287, rfl, drop_next hd2143, pin, pinh⟩
     replace h2287 := itf h2287 c
     rw [c]
     obtain ⟨q2262, h2290, h2287⟩ := bnd h2287
     refine go ?_;intros
     refine w_last (fun t o => ∃ b2269 b2270 c2271 b2272, Pin t (ovr [(3, .ptr 24 b2269 210 0 0), (5, .ref 120 b2270 c2271 0 v2136.length 241), (6, .v (.int .i64 (k1712 : Int))), (7, .ptr 56 b2272 115 0 0), (8, .v (.int .i64 (k2140 : Int))), (10, .v (.bool false)), (17, .ro (List.map (eCommit false) a0.commits)), (18, .v (.int .i64 (a0.commits.length : Int))), (19, .v (.int .i64 (k1712 : Int))), (32, .ro (List.map (eCommit false) a1.commits)), (33, .v (.int .i64 (a1.commits.length : Int))), (34, .v (.int .i64 (k2140 : Int)))] t) ∧ PinH o (ovh [(24, ⟨b2269, 1, 210, true, [[.sl false 3 (List.map (eCommit false) a1.commits), .sl false 2 (List.map eHead a1.heads)]]⟩), (120, ent b2270 c2271 241 (List.map (eSl true 33 eBool) v2136)), (56, ⟨b2272, 1, 115, true, [[.sl false 1 (List.map eInt x1713.up), .sl false 4 (List.map (eFeat false) x1713.sheet), .v (.string x1713.note)]]⟩)] o)) ?_ ?_
     ·refine w_loop2 (fun n t o => ∃ n2268  b2263 b2264 c2265 b2266 b2267, gl_at9_53 x1713 n2268  = some q2262 ∧ n2268 = n ∧ Pin t (ovr [(3, .ptr 24 b2263 210 0 0), (5, .ref 120 b2264 c2265 0 v2136.length 241), (6, .v (.int .i64 (k1712 : Int))), (7, .ptr 56 b2266 115 0 0), (8, .v (.int .i64 (k2140 : Int))), (9, .ptr 72 b2267 115 0 0), (10, .v (.bool false)), (11, .v (.int .i64 0)), (17, .ro (List.map (eCommit false) a0.commits)), (18, .v (.int .i64 (a0.commits.length : Int))), (19, .v (.int .i64 (k1712 : Int))), (32, .ro (List.map (eCommit false) a1.commits)), (33, .v (.int .i64 (a1.commits.length : Int))), (34, .v (.int .i64 (k2140 : Int)))] t) ∧ PinH o (ovh [(24, ⟨b2263, 1, 210, true, [[.sl false 3 (List.map (eCommit false) a1.commits), .sl false 2 (List.map eHead a1.heads)]]⟩), (120, ent b2264 c2265 241 (List.map (eSl true 33 eBool) v2136)), (56, ⟨b2266, 1, 115, true, [[.sl false 1 (List.map eInt x1713.up), .sl false 4 (List.map (eFeat false) x1713.sheet), .v (.string x1713.note)]]⟩), (72, ⟨b2267, 1, 115, true, [[.sl false 1 (List.map eInt x2141.up), .sl false 4 (List.map (eFeat false) x2141.sheet), .v (.string x2141.note)]]⟩)] o)) _ ⟨_, _, _, _, _, _, h2290, rfl, pin, pinh⟩ ?_
      rintro n t o ⟨n2268, b2263, b2264, c2265, b2266, b2267, h2290, rfl, pq1, pq2⟩
      refine pinned pq1 pq2 ?_
      cases n2268 with
      | zero => rw [gl_at9_53] at h2290; cases h2290
      | succ n2268 =>
       rw [gl_at9_53] at h2290
       refine go ?_;intros
       refine s_split rfl (fun c => ?_) (fun c => ?_)
       ·replace h2290 := itt h2290 (by first | exact c | (have c2 := c; simp only [List.length_map] at c2; exact c2))
        rw [c]
        refine go ?_;intros
        cases h2290
        exact k_cn ⟨_, _, _, _, pin, pinh⟩
       replace h2290 := itf h2290 (by first | exact c | (have c2 := c; simp only [List.length_map] at c2; exact c2))
       rw [c]
       refine go ?_;intros
       cases h2290
       exact k_cn ⟨_, _, _, _, pin, pinh⟩
     rintro t o ⟨b2269, b2270, c2271, b2272, pq1, pq2⟩
     refine pinnedQ pq1 pq2 ?_
     obtain ⟨x2273, h2274, h2287⟩ := bnd h2287
     refine go ?_;intros
     refine r_ire (xs := v2136) rfl rfl h2274 rfl ?_
     refine go ?_;intros
     refine r_lop (f := (eSl true 33 eBool)) (g := eBool) (xs := v2136) (x := x2273) (idx_get h2274).2 rfl rfl rfl fun b2275 c2276 => ?_
     obtain ⟨x2277, h2278, h2287⟩ := bnd h2287
     refine go ?_;intros
     refine r_ire (xs := x2273) rfl rfl h2278 rfl ?_
     refine go ?_;intros
     refine r_shut ?_
     refine go ?_;intros
     refine c_ste (f := eBool) x2273 false (idx_get h2278).2 ?_
     refine go ?_;intros
     refine k_sh (f := (eSl true 33 eBool)) (g := eBool) (List.set x2273 (k2140 : Int).toNat false) (idx_get h2274).2 ?_
     refine go ?_;intros
     rw [hw2147]
     exact k_ln2 _ (Nat.lt_succ_self _) ⟨_, _, _, _, _, _, _, h2287, rfl, drop_next hd2143, pin, pinh⟩
   rintro t o ⟨b2279, b2281, c2282, pq1, pq2⟩
   refine pinnedQ pq1 pq2 ?_
   refine go ?_;intros
   rw [hw1719]
   exact k_ln2 _ (Nat.lt_succ_self _) ⟨_, _, _, _, _, _, h2286, rfl, drop_next hd1715, pin, pinh⟩
 rintro t o ⟨b2284, c2285, pq1, pq2⟩
 refine pinnedQ pq1 pq2 ?_
 refine go ?_;intros
 cases h
 exact r_end
end Go.Proofs.AM
