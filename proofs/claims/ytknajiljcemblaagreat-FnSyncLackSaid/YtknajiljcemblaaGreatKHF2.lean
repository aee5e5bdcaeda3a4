/- Lemmas of the proof (KHF2), on an abstract machine. Conditions: none. -/
import Derived.Test.YtknajiljcemblaaGreatKHD
set_option linter.unusedVariables false
set_option linter.unusedSimpArgs false
set_option maxRecDepth 100000
set_option maxHeartbeats 4000000
namespace Go.Proofs.AM
attribute [local irreducible] vwp vstps vstpLs vstp vdo vret kseq kblk kloop kend kcut kloop2 frzV renV shutK pfzV trnV unrV
theorem d_cc9 {G : Gam} (H_bu9 : Has G c_bu9) (a0 : (List Feat)) (r : Bool) (h : gf_cc9 a0 = some r) : Does G if_cc9 ks_cc9 (c_cc9.args (a0)) [] (c_cc9.ans (a0) r) := by
 refine does_pn (L := [(0, .ro (List.map (eFeat false) a0))]) (fun bs => pin) fun bs t o => ?_
 show vwp _ ib_cc9 _ _
 unfold ib_cc9
 refine w_ir ?_
 unfold gf_cc9 at h
 obtain ⟨hf28, h⟩ := gd h
 obtain ⟨q18, h33, h⟩ := bnd h
 refine go ?_;intros
 refine w_last (fun t o => ∃ q18_, q18 = .inr q18_ ∧ Pin t (ovr [(0, .ro (List.map (eFeat false) a0))] t) ∧ PinH o (ovh [] o)) ?_ ?_
 ·refine w_loop2 (fun n t o => ∃ l22 k20  , gl_cc9_1 a0 l22 k20  = some q18 ∧ n = l22.length ∧ (a0).drop k20 = l22 ∧ Pin t (ovr [(0, .ro (List.map (eFeat false) a0)), (3, .v (.int .i64 (k20 : Int)))] t) ∧ PinH o (ovh [] o)) _ ⟨_, _, h33, rfl, rfl, pin, pinh⟩ ?_
  rintro n t o ⟨l22, k20, h33, rfl, hd23, pq1, pq2⟩
  refine pinned pq1 pq2 ?_
  cases l22 with
  | nil =>
   have hge25 := drop_ge hd23
   rw [gl_cc9_1] at h33
   refine go ?_;intros
   rw [hge25]
   refine go ?_;intros
   cases h33
   exact k_cn ⟨_, rfl, pin, pinh⟩
  | cons x21 l22 =>
   have hlt24 := drop_lt hd23
   have hx26 := drop_ix hd23
   have hw27 := drop_wr hd23 hf28
   rw [gl_cc9_1] at h33
   refine go ?_;intros
   rw [hlt24]
   refine go ?_;intros
   refine r_iro rfl rfl hx26 rfl ?_
   obtain ⟨x29, h30, h33⟩ := bnd h33
   refine go ?_;intros
   refine c_call (c := c_bu9) (x21) H_bu9 h30 fun ch => ?_
   refine go ?_;intros
   refine s_split rfl (fun c => ?_) (fun c => ?_)
   ·replace h33 := itt h33 c
    rw [c]
    refine go ?_;intros
    cases h33
    replace h : some _ = some _ := h
    cases h
    exact r_end
   replace h33 := itf h33 c
   rw [c]
   refine go ?_;intros
   refine s_split rfl (fun c => ?_) (fun c => ?_)
   ·replace h33 := itt h33 c
    rw [c]
    refine go ?_;intros
    refine r_iro rfl rfl hx26 rfl ?_
    obtain ⟨x31, h32, h33⟩ := bnd h33
    refine go ?_;intros
    refine r_iro rfl rfl h32 rfl ?_
    refine go ?_;intros
    refine w_cond rfl (fun c => ?_) (fun c => ?_)
    ·replace h33 := itt h33 c
     try rw [c]
     refine go ?_;intros
     cases h33
     replace h : some _ = some _ := h
     cases h
     exact r_end
    replace h33 := itf h33 c
    try rw [c]
    refine go ?_;intros
    rw [hw27]
    exact k_ln2 _ (Nat.lt_succ_self _) ⟨_, _, h33, rfl, drop_next hd23, pin, pinh⟩
   replace h33 := itf h33 c
   rw [c]
   refine go ?_;intros
   rw [hw27]
   exact k_ln2 _ (Nat.lt_succ_self _) ⟨_, _, h33, rfl, drop_next hd23, pin, pinh⟩
 rintro t o ⟨q18, rfl, pq1, pq2⟩
 refine pinnedQ pq1 pq2 ?_
 refine go ?_;intros
 cases h
 exact r_end
theorem d_dq9 {G : Gam} (H_dz9 : Has G c_dz9) (a0 : Repo) (a1 : Commit) (r : Int) (h : gf_dq9 a0 a1 = some r) : Does G if_dq9 ks_dq9 (c_dq9.args (a0, a1)) [] (c_dq9.ans (a0, a1) r) := by
 refine does_pn (L := [(0, .agg [.ro (List.map (eCommit false) a0.commits), .ro (List.map eHead a0.heads)]), (1, .agg [.ro (List.map eInt a1.up), .ro (List.map (eFeat false) a1.sheet), .v (.string a1.note)])]) (fun bs => pin) fun bs t o => ?_
 show vwp _ ib_dq9 _ _
 unfold ib_dq9
 refine w_ir ?_
 unfold gf_dq9 at h
 obtain ⟨hf32, h⟩ := gd h
 obtain ⟨q20, h35, h⟩ := bnd h
 refine go ?_;intros
 refine w_last (fun t o => ∃ q20_, q20 = .inr q20_ ∧ Pin t (ovr [] t) ∧ PinH o (ovh [] o)) ?_ ?_
 ·refine w_loop2 (fun n t o => ∃ l26 k24  b22 b23, gl_dq9_1 a1 l26 k24  = some q20 ∧ n = l26.length ∧ (a0.commits).drop k24 = l26 ∧ Pin t (ovr [(2, .ptr 16 b22 210 0 0), (3, .ptr 24 b23 115 0 0), (5, .v (.int .i64 (k24 : Int)))] t) ∧ PinH o (ovh [(16, ⟨b22, 1, 210, true, [[.sl false 3 (List.map (eCommit false) a0.commits), .sl false 2 (List.map eHead a0.heads)]]⟩), (24, ⟨b23, 1, 115, true, [[.sl false 1 (List.map eInt a1.up), .sl false 4 (List.map (eFeat false) a1.sheet), .v (.string a1.note)]]⟩)] o)) _ ⟨_, _, _, _, h35, rfl, rfl, pin, pinh⟩ ?_
  rintro n t o ⟨l26, k24, b22, b23, h35, rfl, hd27, pq1, pq2⟩
  refine pinned pq1 pq2 ?_
  cases l26 with
  | nil =>
   have hge29 := drop_ge hd27
   rw [gl_dq9_1] at h35
   refine go ?_;intros
   rw [hge29]
   refine go ?_;intros
   cases h35
   exact k_cn ⟨_, rfl, pin, pinh⟩
  | cons x25 l26 =>
   have hlt28 := drop_lt hd27
   have hx30 := drop_ix hd27
   have hw31 := drop_wr hd27 hf32
   rw [gl_dq9_1] at h35
   refine go ?_;intros
   rw [hlt28]
   refine go ?_;intros
   refine r_iro rfl rfl hx30 rfl ?_
   obtain ⟨x33, h34, h35⟩ := bnd h35
   refine go ?_;intros
   refine c_call (c := c_dz9) (x25, a1) H_dz9 h34 fun ch => ?_
   refine go ?_;intros
   refine w_cond rfl (fun c => ?_) (fun c => ?_)
   ·replace h35 := itt h35 c
    try rw [c]
    refine go ?_;intros
    cases h35
    replace h : some _ = some _ := h
    cases h
    exact r_end
   replace h35 := itf h35 c
   try rw [c]
   refine go ?_;intros
   rw [hw31]
   exact k_ln2 _ (Nat.lt_succ_self _) ⟨_, _, _, _, h35, rfl, drop_next hd27, pin, pinh⟩
 rintro t o ⟨q20, rfl, pq1, pq2⟩
 refine pinnedQ pq1 pq2 ?_
 refine go ?_;intros
 cases h
 exact r_end
theorem d_ds9 {G : Gam}  (a0 : Repo) (a1 : Str) (r : Int) (h : gf_ds9 a0 a1 = some r) : Does G if_ds9 ks_ds9 (c_ds9.args (a0, a1)) [] (c_ds9.ans (a0, a1) r) := by
 refine does_pn (L := [(0, .agg [.ro (List.map (eCommit false) a0.commits), .ro (List.map eHead a0.heads)]), (1, .v (.string a1))]) (fun bs => pin) fun bs t o => ?_
 show vwp _ ib_ds9 _ _
 unfold ib_ds9
 refine w_ir ?_
 unfold gf_ds9 at h
 obtain ⟨hf22, h⟩ := gd h
 obtain ⟨q11, h23, h⟩ := bnd h
 refine go ?_;intros
 refine w_last (fun t o => ∃ q11_, q11 = .inr q11_ ∧ Pin t (ovr [] t) ∧ PinH o (ovh [] o)) ?_ ?_
 ·refine w_loop2 (fun n t o => ∃ l16 k14  b13, gl_ds9_1 a1 l16 k14  = some q11 ∧ n = l16.length ∧ (a0.heads).drop k14 = l16 ∧ Pin t (ovr [(1, .v (.string a1)), (2, .ptr 16 b13 210 0 0), (5, .v (.int .i64 (k14 : Int)))] t) ∧ PinH o (ovh [(16, ⟨b13, 1, 210, true, [[.sl false 3 (List.map (eCommit false) a0.commits), .sl false 2 (List.map eHead a0.heads)]]⟩)] o)) _ ⟨_, _, _, h23, rfl, rfl, pin, pinh⟩ ?_
  rintro n t o ⟨l16, k14, b13, h23, rfl, hd17, pq1, pq2⟩
  refine pinned pq1 pq2 ?_
  cases l16 with
  | nil =>
   have hge19 := drop_ge hd17
   rw [gl_ds9_1] at h23
   refine go ?_;intros
   rw [hge19]
   refine go ?_;intros
   cases h23
   exact k_cn ⟨_, rfl, pin, pinh⟩
  | cons x15 l16 =>
   have hlt18 := drop_lt hd17
   have hx20 := drop_ix hd17
   have hw21 := drop_wr hd17 hf22
   rw [gl_ds9_1] at h23
   refine go ?_;intros
   rw [hlt18]
   refine go ?_;intros
   refine r_iro rfl rfl hx20 rfl ?_
   refine go ?_;intros
   refine w_cond rfl (fun c => ?_) (fun c => ?_)
   ·replace h23 := itt h23 c
    try rw [c]
    refine go ?_;intros
    cases h23
    replace h : some _ = some _ := h
    cases h
    exact r_end
   replace h23 := itf h23 c
   try rw [c]
   refine go ?_;intros
   rw [hw21]
   exact k_ln2 _ (Nat.lt_succ_self _) ⟨_, _, _, h23, rfl, drop_next hd17, pin, pinh⟩
 rintro t o ⟨q11, rfl, pq1, pq2⟩
 refine pinnedQ pq1 pq2 ?_
 refine go ?_;intros
 cases h
 exact r_end
theorem d_co9 {G : Gam}  (a0 : Shape) (r : Shape) (h : gf_co9 a0 = some r) : Does G if_co9 ks_co9 (c_co9.args (a0)) [] (c_co9.ans (a0) r) := by
 refine does_pn (L := [(0, .agg [.v (.int .i64 a0.kind), .ro (List.map ePt a0.pts)])]) (fun bs => pin) fun bs t o => ?_
 show vwp _ ib_co9 _ _
 unfold ib_co9
 refine w_ir ?_
 unfold gf_co9 at h
 obtain ⟨h6, h⟩ := gd h
 refine go ?_;intros
 refine r_app (f := ePt) (xs := ([] : (List Pt))) (ys := a0.pts) rfl (src_ro (fun _ => rfl) (fun _ => rfl)) rfl rfl (by first | rfl | simp) h6 fun b4 c5 => ?_
 refine go ?_;intros
 cases h
 exact r_end
theorem d_cw9 {G : Gam} (H_co9 : Has G c_co9) (a0 : Feat) (r : Feat) (h : gf_cw9 a0 = some r) : Does G if_cw9 ks_cw9 (c_cw9.args (a0)) [] (c_cw9.ans (a0) r) := by
 refine does_pn (L := [(0, .agg [.v (.string a0.id), .v (.int .i64 a0.shape.kind), .ro (List.map ePt a0.shape.pts), .ro (List.map eTag a0.tags)])]) (fun bs => pin) fun bs t o => ?_
 show vwp _ ib_cw9 _ _
 unfold ib_cw9
 refine w_ir ?_
 unfold gf_cw9 at h
 obtain ⟨x3, h4, h⟩ := bnd h
 refine go ?_;intros
 refine c_call (c := c_co9) (a0.shape) H_co9 h4 fun ch => ?_
 obtain ⟨h10, h⟩ := gd h
 refine go ?_;intros
 refine r_app (f := eTag) (xs := ([] : (List Tag))) (ys := a0.tags) rfl (src_ro (fun _ => rfl) (fun _ => rfl)) rfl rfl (by first | rfl | simp) h10 fun b8 c9 => ?_
 refine go ?_;intros
 cases h
 exact r_end
theorem d_df9 {G : Gam} (H_cw9 : Has G c_cw9) (a0 : (List Feat)) (r : (List Feat)) (h : gf_df9 a0 = some r) : Does G if_df9 ks_df9 (c_df9.args (a0)) [] (c_df9.ans (a0) r) := by
 refine does_pn (L := [(0, .ro (List.map (eFeat false) a0))]) (fun bs => pin) fun bs t o => ?_
 show vwp _ ib_df9 _ _
 unfold ib_df9
 refine w_ir ?_
 unfold gf_df9 at h
 obtain ⟨hf57, h⟩ := gd h
 obtain ⟨q44, h71, h⟩ := bnd h
 refine go ?_;intros
 refine w_last (fun t o => ∃ b69 c70, Pin t (ovr [(3, .ref 40 b69 c70 0 q44.length 100)] t) ∧ PinH o (ovh [(40, ent b69 c70 100 (List.map (eFeat true) q44))] o)) ?_ ?_
 ·refine w_loop2 (fun n t o => ∃ l51 k49 v46 b47 c48, gl_df9_1 l51 k49 v46 = some q44 ∧ n = l51.length ∧ (a0).drop k49 = l51 ∧ Pin t (ovr [(0, .ro (List.map (eFeat false) a0)), (3, .ref 40 b47 c48 0 v46.length 100), (4, .v (.int .i64 (k49 : Int)))] t) ∧ PinH o (ovh [(40, ent b47 c48 100 (List.map (eFeat true) v46))] o)) _ ⟨_, _, _, _, _, h71, rfl, rfl, pin, pinh⟩ ?_
  rintro n t o ⟨l51, k49, v46, b47, c48, h71, rfl, hd52, pq1, pq2⟩
  refine pinned pq1 pq2 ?_
  cases l51 with
  | nil =>
   have hge54 := drop_ge hd52
   rw [gl_df9_1] at h71
   refine go ?_;intros
   rw [hge54]
   refine go ?_;intros
   cases h71
   exact k_cn ⟨_, _, pin, pinh⟩
  | cons x50 l51 =>
   have hlt53 := drop_lt hd52
   have hx55 := drop_ix hd52
   have hw56 := drop_wr hd52 hf57
   rw [gl_df9_1] at h71
   refine go ?_;intros
   rw [hlt53]
   refine go ?_;intros
   refine r_iro rfl rfl hx55 rfl ?_
   obtain ⟨x58, h59, h71⟩ := bnd h71
   refine go ?_;intros
   refine c_call (c := c_cw9) (x50) H_cw9 h59 fun ch => ?_
   refine go ?_;intros
   try simp only [take_map_len, take_ent]
   obtain ⟨h67, h71⟩ := gd h71
   refine go ?_;intros
   refine r_app (f := (eFeat true)) (xs := v46) (ys := ([x58] : (List Feat))) rfl (src_mv rfl rfl (by first | rfl | simp)) rfl rfl (by first | rfl | simp) h67 fun b65 c66 => ?_
   refine go ?_;intros
   rw [hw56]
   exact k_ln2 _ (Nat.lt_succ_self _) ⟨_, _, _, _, _, h71, rfl, drop_next hd52, pin, pinh⟩
 rintro t o ⟨b69, c70, pq1, pq2⟩
 refine pinnedQ pq1 pq2 ?_
 refine go ?_;intros
 cases h
 exact r_end
theorem d_dx9 {G : Gam} (H_df9 : Has G c_df9) (a0 : Commit) (r : Commit) (h : gf_dx9 a0 = some r) : Does G if_dx9 ks_dx9 (c_dx9.args (a0)) [] (c_dx9.ans (a0) r) := by
 refine does_pn (L := [(0, .agg [.ro (List.map eInt a0.up), .ro (List.map (eFeat false) a0.sheet), .v (.string a0.note)])]) (fun bs => pin) fun bs t o => ?_
 show vwp _ ib_dx9 _ _
 unfold ib_dx9
 refine w_ir ?_
 unfold gf_dx9 at h
 obtain ⟨h6, h⟩ := gd h
 refine go ?_;intros
 refine r_app (f := eInt) (xs := ([] : (List Int))) (ys := a0.up) rfl (src_ro (fun _ => rfl) (fun _ => rfl)) rfl rfl (by first | rfl | simp) h6 fun b4 c5 => ?_
 obtain ⟨x7, h8, h⟩ := bnd h
 refine go ?_;intros
 refine c_call (c := c_df9) (a0.sheet) H_df9 h8 fun ch => ?_
 refine go ?_;intros
 cases h
 exact r_end
theorem d_bz9 {G : Gam} (H_ea9 : Has G c_ea9) (H_cc9 : Has G c_cc9) (H_cf9 : Has G c_cf9) (H_dq9 : Has G c_dq9) (H_ds9 : Has G c_ds9) (a0 : Repo) (r : Bool) (h : gf_bz9 a0 = some r) : Does G if_bz9 ks_bz9 (c_bz9.args (a0)) [] (c_bz9.ans (a0) r) := by
 refine does_pn (L := [(0, .agg [.ro (List.map (eCommit false) a0.commits), .ro (List.map eHead a0.heads)])]) (fun bs => pin) fun bs t o => ?_
 show vwp _ ib_bz9 _ _
 unfold ib_bz9
 refine w_ir ?_
 unfold gf_bz9 at h
 refine go ?_;intros
 refine s_split rfl (fun c => ?_) (fun c => ?_)
 ·replace h := itt h (by first | exact c | (have c2 := c; simp only [List.length_map] at c2; exact c2))
  rw [c]
  refine go ?_;intros
  cases h
  exact r_end
 replace h := itf h (by first | exact c | (have c2 := c; simp only [List.length_map] at c2; exact c2))
 rw [c]
 refine go ?_;intros
 refine s_split rfl (fun c => ?_) (fun c => ?_)
 ·replace h := itt h (by first | exact c | (have c2 := c; simp only [List.length_map] at c2; exact c2))
  rw [c]
  refine go ?_;intros
  cases h
  exact r_end
 replace h := itf h (by first | exact c | (have c2 := c; simp only [List.length_map] at c2; exact c2))
 rw [c]
 refine go ?_;intros
 refine s_split rfl (fun c => ?_) (fun c => ?_)
 ·replace h := itt h (by first | exact c | (have c2 := c; simp only [List.length_map] at c2; exact c2))
  rw [c]
  refine go ?_;intros
  cases h
  exact r_end
 replace h := itf h (by first | exact c | (have c2 := c; simp only [List.length_map] at c2; exact c2))
 rw [c]
 refine go ?_;intros
 refine w_cond rfl (fun c => ?_) (fun c => ?_)
 ·replace h := itt h (by first | exact c | (have c2 := c; simp only [List.length_map] at c2; exact c2))
  try rw [c]
  refine go ?_;intros
  cases h
  exact r_end
 replace h := itf h (by first | exact c | (have c2 := c; simp only [List.length_map] at c2; exact c2))
 try rw [c]
 obtain ⟨hf49, h⟩ := gd h
 obtain ⟨q38, h101, h⟩ := bnd h
 refine go ?_;intros
 refine w_last (fun t o => ∃ q38_, q38 = .inr q38_ ∧ ∃ b59, Pin t (ovr [(1, .ptr 8 b59 210 0 0)] t) ∧ PinH o (ovh [(8, ⟨b59, 1, 210, true, [[.sl false 3 (List.map (eCommit false) a0.commits), .sl false 2 (List.map eHead a0.heads)]]⟩)] o)) ?_ ?_
 ·refine w_loop2 (fun n t o => ∃ l43 k41  b40, gl_bz9_1 a0 l43 k41  = some q38 ∧ n = l43.length ∧ (a0.commits).drop k41 = l43 ∧ Pin t (ovr [(1, .ptr 8 b40 210 0 0), (3, .v (.int .i64 (k41 : Int)))] t) ∧ PinH o (ovh [(8, ⟨b40, 1, 210, true, [[.sl false 3 (List.map (eCommit false) a0.commits), .sl false 2 (List.map eHead a0.heads)]]⟩)] o)) _ ⟨_, _, _, h101, rfl, rfl, pin, pinh⟩ ?_
  rintro n t o ⟨l43, k41, b40, h101, rfl, hd44, pq1, pq2⟩
  refine pinned pq1 pq2 ?_
  cases l43 with
  | nil =>
   have hge46 := drop_ge hd44
   rw [gl_bz9_1] at h101
   refine go ?_;intros
   rw [hge46]
   refine go ?_;intros
   cases h101
   exact k_cn ⟨_, rfl, _, pin, pinh⟩
  | cons x42 l43 =>
   have hlt45 := drop_lt hd44
   have hx47 := drop_ix hd44
   have hw48 := drop_wr hd44 hf49
   rw [gl_bz9_1] at h101
   refine go ?_;intros
   rw [hlt45]
   refine go ?_;intros
   refine r_iro rfl rfl hx47 rfl ?_
   obtain ⟨x51, h52, h101⟩ := bnd h101
   refine go ?_;intros
   refine c_call (c := c_ea9) (x42.up, (k41 : Int)) H_ea9 h52 fun ch => ?_
   refine go ?_;intros
   refine s_split rfl (fun c => ?_) (fun c => ?_)
   ·replace h101 := itt h101 c
    rw [c]
    refine go ?_;intros
    cases h101
    replace h : some _ = some _ := h
    cases h
    exact r_end
   replace h101 := itf h101 c
   rw [c]
   obtain ⟨x53, h54, h101⟩ := bnd h101
   refine go ?_;intros
   refine c_call (c := c_cc9) (x42.sheet) H_cc9 h54 fun ch => ?_
   refine go ?_;intros
   refine s_split rfl (fun c => ?_) (fun c => ?_)
   ·replace h101 := itt h101 c
    rw [c]
    refine go ?_;intros
    cases h101
    replace h : some _ = some _ := h
    cases h
    exact r_end
   replace h101 := itf h101 c
   rw [c]
   obtain ⟨x55, h56, h101⟩ := bnd h101
   refine go ?_;intros
   refine c_call (c := c_cf9) (x42.note) H_cf9 h56 fun ch => ?_
   refine go ?_;intros
   refine s_split rfl (fun c => ?_) (fun c => ?_)
   ·replace h101 := itt h101 c
    rw [c]
    refine go ?_;intros
    cases h101
    replace h : some _ = some _ := h
    cases h
    exact r_end
   replace h101 := itf h101 c
   rw [c]
   obtain ⟨x57, h58, h101⟩ := bnd h101
   refine go ?_;intros
   refine c_call (c := c_dq9) (a0, x42) H_dq9 h58 fun ch => ?_
   refine go ?_;intros
   refine w_cond rfl (fun c => ?_) (fun c => ?_)
   ·replace h101 := itt h101 c
    try rw [c]
    refine go ?_;intros
    cases h101
    replace h : some _ = some _ := h
    cases h
    exact r_end
   replace h101 := itf h101 c
   try rw [c]
   refine go ?_;intros
   rw [hw48]
   exact k_ln2 _ (Nat.lt_succ_self _) ⟨_, _, _, h101, rfl, drop_next hd44, pin, pinh⟩
 rintro t o ⟨q38, rfl, b59, pq1, pq2⟩
 refine pinnedQ pq1 pq2 ?_
 obtain ⟨hf95, h⟩ := gd h
 obtain ⟨q84, h102, h⟩ := bnd h
 refine go ?_;intros
 refine w_last (fun t o => ∃ q84_, q84 = .inr q84_ ∧ Pin t (ovr [] t) ∧ PinH o (ovh [] o)) ?_ ?_
 ·refine w_loop2 (fun n t o => ∃ l89 k87  b86, gl_bz9_2 a0 l89 k87  = some q84 ∧ n = l89.length ∧ (a0.heads).drop k87 = l89 ∧ Pin t (ovr [(1, .ptr 8 b86 210 0 0), (5, .v (.int .i64 (k87 : Int)))] t) ∧ PinH o (ovh [(8, ⟨b86, 1, 210, true, [[.sl false 3 (List.map (eCommit false) a0.commits), .sl false 2 (List.map eHead a0.heads)]]⟩)] o)) _ ⟨_, _, _, h102, rfl, rfl, pin, pinh⟩ ?_
  rintro n t o ⟨l89, k87, b86, h102, rfl, hd90, pq1, pq2⟩
  refine pinned pq1 pq2 ?_
  cases l89 with
  | nil =>
   have hge92 := drop_ge hd90
   rw [gl_bz9_2] at h102
   refine go ?_;intros
   rw [hge92]
   refine go ?_;intros
   cases h102
   exact k_cn ⟨_, rfl, pin, pinh⟩
  | cons x88 l89 =>
   have hlt91 := drop_lt hd90
   have hx93 := drop_ix hd90
   have hw94 := drop_wr hd90 hf95
   rw [gl_bz9_2] at h102
   refine go ?_;intros
   rw [hlt91]
   refine go ?_;intros
   refine r_iro rfl rfl hx93 rfl ?_
   obtain ⟨x97, h98, h102⟩ := bnd h102
   refine go ?_;intros
   refine c_call (c := c_cf9) (x88.name) H_cf9 h98 fun ch => ?_
   refine go ?_;intros
   refine s_split rfl (fun c => ?_) (fun c => ?_)
   ·replace h102 := itt h102 c
    rw [c]
    refine go ?_;intros
    cases h102
    replace h : some _ = some _ := h
    cases h
    exact r_end
   replace h102 := itf h102 c
   rw [c]
   obtain ⟨x99, h100, h102⟩ := bnd h102
   refine go ?_;intros
   refine c_call (c := c_ds9) (a0, x88.name) H_ds9 h100 fun ch => ?_
   refine go ?_;intros
   refine s_split rfl (fun c => ?_) (fun c => ?_)
   ·replace h102 := itt h102 c
    rw [c]
    refine go ?_;intros
    cases h102
    replace h : some _ = some _ := h
    cases h
    exact r_end
   replace h102 := itf h102 c
   rw [c]
   refine go ?_;intros
   refine s_split rfl (fun c => ?_) (fun c => ?_)
   ·replace h102 := itt h102 c
    rw [c]
    refine go ?_;intros
    cases h102
    replace h : some _ = some _ := h
    cases h
    exact r_end
   replace h102 := itf h102 c
   rw [c]
   refine go ?_;intros
   refine w_cond rfl (fun c => ?_) (fun c => ?_)
   ·replace h102 := itt h102 (by first | exact c | (have c2 := c; simp only [List.length_map] at c2; exact c2))
    try rw [c]
    refine go ?_;intros
    cases h102
    replace h : some _ = some _ := h
    cases h
    exact r_end
   replace h102 := itf h102 (by first | exact c | (have c2 := c; simp only [List.length_map] at c2; exact c2))
   try rw [c]
   refine go ?_;intros
   rw [hw94]
   exact k_ln2 _ (Nat.lt_succ_self _) ⟨_, _, _, h102, rfl, drop_next hd90, pin, pinh⟩
 rintro t o ⟨q84, rfl, pq1, pq2⟩
 refine pinnedQ pq1 pq2 ?_
 refine go ?_;intros
 cases h
 exact r_end
theorem d_du9 {G : Gam}  (a0 : Repo) (a1 : (List Int)) (r : (List Bool)) (h : gf_du9 a0 a1 = some r) : Does G if_du9 ks_du9 (c_du9.args (a0, a1)) [] (c_du9.ans (a0, a1) r) := by
 refine does_pn (L := [(0, .agg [.ro (List.map (eCommit false) a0.commits), .ro (List.map eHead a0.heads)]), (1, .ro (List.map eInt a1))]) (fun bs => pin) fun bs t o => ?_
 show vwp _ ib_du9 _ _
 unfold ib_du9
 refine w_ir ?_
 unfold gf_du9 at h
 obtain ⟨h4, h⟩ := gd h
 refine go ?_;intros
 refine r_mks (f := eBool) (x := false) rfl rfl (band1 h4) (band2 h4) rfl fun b2 => ?_
 obtain ⟨hf39, h⟩ := gd h
 obtain ⟨q25, h268, h⟩ := bnd h
 refine go ?_;intros
 refine w_last (fun t o => ∃ b42 b44 c45, Pin t (ovr [(2, .ptr 16 b42 210 0 0), (5, .ref 96 b44 c45 0 q25.length 33)] t) ∧ PinH o (ovh [(16, ⟨b42, 1, 210, true, [[.sl false 3 (List.map (eCommit false) a0.commits), .sl false 2 (List.map eHead a0.heads)]]⟩), (96, ent b44 c45 33 (List.map eBool q25))] o)) ?_ ?_
 ·refine w_loop2 (fun n t o => ∃ l33 k31 v28 b27 b29 c30, gl_du9_1 l33 k31 v28 = some q25 ∧ n = l33.length ∧ (a1).drop k31 = l33 ∧ Pin t (ovr [(1, .ro (List.map eInt a1)), (2, .ptr 16 b27 210 0 0), (5, .ref 96 b29 c30 0 v28.length 33), (6, .v (.int .i64 (k31 : Int)))] t) ∧ PinH o (ovh [(16, ⟨b27, 1, 210, true, [[.sl false 3 (List.map (eCommit false) a0.commits), .sl false 2 (List.map eHead a0.heads)]]⟩), (96, ent b29 c30 33 (List.map eBool v28))] o)) _ ⟨_, _, _, _, _, _, h268, rfl, rfl, pin, pinh⟩ ?_
  rintro n t o ⟨l33, k31, v28, b27, b29, c30, h268, rfl, hd34, pq1, pq2⟩
  refine pinned pq1 pq2 ?_
  cases l33 with
  | nil =>
   have hge36 := drop_ge hd34
   rw [gl_du9_1] at h268
   refine go ?_;intros
   rw [hge36]
   refine go ?_;intros
   cases h268
   exact k_cn ⟨_, _, _, pin, pinh⟩
  | cons x32 l33 =>
   have hlt35 := drop_lt hd34
   have hx37 := drop_ix hd34
   have hw38 := drop_wr hd34 hf39
   rw [gl_du9_1] at h268
   refine go ?_;intros
   rw [hlt35]
   refine go ?_;intros
   refine r_iro rfl rfl hx37 rfl ?_
   obtain ⟨x40, h41, h268⟩ := bnd h268
   refine go ?_;intros
   refine r_ire (xs := v28) rfl rfl h41 rfl ?_
   refine go ?_;intros
   refine c_ste (f := eBool) v28 true (idx_get h41).2 ?_
   refine go ?_;intros
   rw [hw38]
   exact k_ln2 _ (Nat.lt_succ_self _) ⟨_, _, _, _, _, _, h268, rfl, drop_next hd34, pin, pinh⟩
 rintro t o ⟨b42, b44, c45, pq1, pq2⟩
 refine pinnedQ pq1 pq2 ?_
 obtain ⟨q207, h269, h⟩ := bnd h
 refine go ?_;intros
 refine w_last (fun t o => ∃ b266 c267, Pin t (ovr [(5, .ref 96 b266 c267 0 q207.length 33)] t) ∧ PinH o (ovh [(96, ent b266 c267 33 (List.map eBool q207))] o)) ?_ ?_
 ·refine w_loop2 (fun n t o => ∃ n213 v208 v210 b209 b211 c212, gl_du9_5 a0 n213 v208 v210 = some q207 ∧ n213 = n ∧ Pin t (ovr [(2, .ptr 16 b209 210 0 0), (5, .ref 96 b211 c212 0 v210.length 33), (7, .v (.int .i64 v208))] t) ∧ PinH o (ovh [(16, ⟨b209, 1, 210, true, [[.sl false 3 (List.map (eCommit false) a0.commits), .sl false 2 (List.map eHead a0.heads)]]⟩), (96, ent b211 c212 33 (List.map eBool v210))] o)) _ ⟨_, _, _, _, _, _, h269, rfl, pin, pinh⟩ ?_
  rintro n t o ⟨n213, v208, v210, b209, b211, c212, h269, rfl, pq1, pq2⟩
  refine pinned pq1 pq2 ?_
  cases n213 with
  | zero => rw [gl_du9_5] at h269; cases h269
  | succ n213 =>
   rw [gl_du9_5] at h269
   refine go ?_;intros
   refine w_cond rfl (fun c => ?_) (fun c => ?_)
   ·replace h269 := itt h269 c
    try rw [c]
    obtain ⟨q246, h270, h269⟩ := bnd h269
    refine go ?_;intros
    refine w_last (fun t o => ∃ b261 b263 c264, Pin t (ovr [(2, .ptr 16 b261 210 0 0), (5, .ref 96 b263 c264 0 q246.length 33), (7, .v (.int .i64 v208))] t) ∧ PinH o (ovh [(16, ⟨b261, 1, 210, true, [[.sl false 3 (List.map (eCommit false) a0.commits), .sl false 2 (List.map eHead a0.heads)]]⟩), (96, ent b263 c264 33 (List.map eBool q246))] o)) ?_ ?_
    ·refine w_loop2 (fun n t o => ∃ n252 v247 v249 b248 b250 c251, gl_du9_6 a0 v208 n252 v247 v249 = some q246 ∧ n252 = n ∧ Pin t (ovr [(2, .ptr 16 b248 210 0 0), (5, .ref 96 b250 c251 0 v249.length 33), (7, .v (.int .i64 v208)), (8, .v (.int .i64 v247))] t) ∧ PinH o (ovh [(16, ⟨b248, 1, 210, true, [[.sl false 3 (List.map (eCommit false) a0.commits), .sl false 2 (List.map eHead a0.heads)]]⟩), (96, ent b250 c251 33 (List.map eBool v249))] o)) _ ⟨_, _, _, _, _, _, h270, rfl, pin, pinh⟩ ?_
     rintro n t o ⟨n252, v247, v249, b248, b250, c251, h270, rfl, pq1, pq2⟩
     refine pinned pq1 pq2 ?_
     cases n252 with
     | zero => rw [gl_du9_6] at h270; cases h270
     | succ n252 =>
      rw [gl_du9_6] at h270
      obtain ⟨x253, h254, h270⟩ := bnd h270
      refine go ?_;intros
      refine r_iro rfl rfl h254 rfl ?_
      refine go ?_;intros
      refine s_split rfl (fun c => ?_) (fun c => ?_)
      ·replace h270 := itt h270 (by first | exact c | (have c2 := c; simp only [List.length_map] at c2; exact c2))
       rw [c]
       obtain ⟨x255, h256, h270⟩ := bnd h270
       refine go ?_;intros
       refine r_ire (xs := v249) rfl rfl h256 rfl ?_
       refine go ?_;intros
       refine r_lde (f := eBool) (xs := v249) (x := x255) rfl rfl (idx_get h256).2 rfl rfl rfl ?_
       refine go ?_;intros
       refine w_cond rfl (fun c => ?_) (fun c => ?_)
       ·replace h270 := itt h270 c
        try rw [c]
        refine go ?_;intros
        refine r_iro rfl rfl h254 rfl ?_
        obtain ⟨x257, h258, h270⟩ := bnd h270
        refine go ?_;intros
        refine r_iro rfl rfl h258 rfl ?_
        obtain ⟨x259, h260, h270⟩ := bnd h270
        refine go ?_;intros
        refine r_ire (xs := v249) rfl rfl h260 rfl ?_
        refine go ?_;intros
        refine c_ste (f := eBool) v249 true (idx_get h260).2 ?_
        refine go ?_;intros
        exact k_ln2 _ (Nat.lt_succ_self _) ⟨_, _, _, _, _, _, h270, rfl, pin, pinh⟩
       replace h270 := itf h270 c
       try rw [c]
       refine go ?_;intros
       cases h270
       exact k_cn ⟨_, _, _, pin, pinh⟩
      replace h270 := itf h270 (by first | exact c | (have c2 := c; simp only [List.length_map] at c2; exact c2))
      rw [c]
      refine go ?_;intros
      cases h270
      exact k_cn ⟨_, _, _, pin, pinh⟩
    rintro t o ⟨b261, b263, c264, pq1, pq2⟩
    refine pinnedQ pq1 pq2 ?_
    refine go ?_;intros
    exact k_ln2 _ (Nat.lt_succ_self _) ⟨_, _, _, _, _, _, h269, rfl, pin, pinh⟩
   replace h269 := itf h269 c
   try rw [c]
   refine go ?_;intros
   cases h269
   exact k_cn ⟨_, _, pin, pinh⟩
 rintro t o ⟨b266, c267, pq1, pq2⟩
 refine pinnedQ pq1 pq2 ?_
 refine go ?_;intros
 cases h
 exact r_end
theorem d_di9 {G : Gam}  (a0 : (List Feat)) (a1 : Feat) (r : (List Feat)) (h : gf_di9 a0 a1 = some r) : Does G if_di9 ks_di9 (c_di9.args (a0, a1)) [] (c_di9.ans (a0, a1) r) := by
 refine does_pn (L := [(0, .ro (List.map (eFeat false) a0)), (1, .agg [.v (.string a1.id), .v (.int .i64 a1.shape.kind), .ro (List.map ePt a1.shape.pts), .ro (List.map eTag a1.tags)])]) (fun bs => pin) fun bs t o => ?_
 show vwp _ ib_di9 _ _
 unfold ib_di9
 refine w_ir ?_
 unfold gf_di9 at h
 obtain ⟨hf103, h⟩ := gd h
 obtain ⟨q88, h131, h⟩ := bnd h
 refine go ?_;intros
 refine w_last (fun t o => ∃ b123 b125 c126, Pin t (ovr [(3, .ptr 24 b123 100 0 0), (5, .ref 64 b125 c126 0 q88.2.length 100), (6, .v (.bool q88.1))] t) ∧ PinH o (ovh [(24, ⟨b123, 1, 100, true, [[.v (.string a1.id), .v (.int .i64 a1.shape.kind), .sl false 2 (List.map ePt a1.shape.pts), .sl false 2 (List.map eTag a1.tags)]]⟩), (64, ent b125 c126 100 (List.map (eFeat false) q88.2))] o)) ?_ ?_
 ·refine w_loop2 (fun n t o => ∃ l97 k95 v89 v92 b91 b93 c94, gl_di9_1 a1 l97 k95 v89 v92 = some q88 ∧ n = l97.length ∧ (a0).drop k95 = l97 ∧ Pin t (ovr [(0, .ro (List.map (eFeat false) a0)), (3, .ptr 24 b91 100 0 0), (5, .ref 64 b93 c94 0 v92.length 100), (6, .v (.bool v89)), (7, .v (.int .i64 (k95 : Int)))] t) ∧ PinH o (ovh [(24, ⟨b91, 1, 100, true, [[.v (.string a1.id), .v (.int .i64 a1.shape.kind), .sl false 2 (List.map ePt a1.shape.pts), .sl false 2 (List.map eTag a1.tags)]]⟩), (64, ent b93 c94 100 (List.map (eFeat false) v92))] o)) _ ⟨_, _, _, _, _, _, _, h131, rfl, rfl, pin, pinh⟩ ?_
  rintro n t o ⟨l97, k95, v89, v92, b91, b93, c94, h131, rfl, hd98, pq1, pq2⟩
  refine pinned pq1 pq2 ?_
  cases l97 with
  | nil =>
   have hge100 := drop_ge hd98
   rw [gl_di9_1] at h131
   refine go ?_;intros
   rw [hge100]
   refine go ?_;intros
   cases h131
   exact k_cn ⟨_, _, _, pin, pinh⟩
  | cons x96 l97 =>
   have hlt99 := drop_lt hd98
   have hx101 := drop_ix hd98
   have hw102 := drop_wr hd98 hf103
   rw [gl_di9_1] at h131
   refine go ?_;intros
   rw [hlt99]
   obtain ⟨q108, h132, h131⟩ := bnd h131
   refine go ?_;intros
   refine w_cut (fun t o => ∃ b114 b116 c117, Pin t (ovr [(0, .ro (List.map (eFeat false) a0)), (3, .ptr 24 b114 100 0 0), (5, .ref 64 b116 c117 0 q108.2.length 100), (6, .v (.bool q108.1)), (7, .v (.int .i64 (k95 : Int)))] t) ∧ PinH o (ovh [(24, ⟨b114, 1, 100, true, [[.v (.string a1.id), .v (.int .i64 a1.shape.kind), .sl false 2 (List.map ePt a1.shape.pts), .sl false 2 (List.map eTag a1.tags)]]⟩), (64, ent b116 c117 100 (List.map (eFeat false) q108.2))] o)) ?_ ?_
   ·refine go ?_;intros
    refine s_split rfl (fun c => ?_) (fun c => ?_)
    ·replace h132 := itt h132 c
     rw [c]
     refine go ?_;intros
     refine r_iro rfl rfl hx101 rfl ?_
     refine go ?_;intros
     refine w_cond rfl (fun c => ?_) (fun c => ?_)
     ·replace h132 := itt h132 c
      try rw [c]
      obtain ⟨h112, h132⟩ := gd h132
      refine go ?_;intros
      refine r_app (f := (eFeat false)) (xs := v92) (ys := ([a1] : (List Feat))) rfl (src_mv rfl rfl (by first | rfl | simp)) rfl rfl (by first | rfl | simp) h112 fun b110 c111 => ?_
      refine go ?_;intros
      cases h132
      exact k_cn ⟨_, _, _, pin, pinh⟩
     replace h132 := itf h132 c
     try rw [c]
     refine go ?_;intros
     cases h132
     exact k_cn ⟨_, _, _, pin, pinh⟩
    replace h132 := itf h132 c
    rw [c]
    refine go ?_;intros
    cases h132
    exact k_cn ⟨_, _, _, pin, pinh⟩
   rintro t o ⟨b114, b116, c117, pq1, pq2⟩
   refine pinned pq1 pq2 ?_
   refine go ?_;intros
   refine r_iro rfl rfl hx101 rfl ?_
   refine go ?_;intros
   refine w_cond rfl (fun c => ?_) (fun c => ?_)
   ·replace h131 := itt h131 c
    try rw [c]
    refine go ?_;intros
    refine r_iro rfl rfl hx101 rfl ?_
    obtain ⟨h121, h131⟩ := gd h131
    refine go ?_;intros
    refine r_app (f := (eFeat false)) (xs := q108.2) (ys := ([x96] : (List Feat))) rfl (src_mv rfl rfl (by first | rfl | simp)) rfl rfl (by first | rfl | simp) h121 fun b119 c120 => ?_
    refine go ?_;intros
    rw [hw102]
    exact k_ln2 _ (Nat.lt_succ_self _) ⟨_, _, _, _, _, _, _, h131, rfl, drop_next hd98, pin, pinh⟩
   replace h131 := itf h131 c
   try rw [c]
   refine go ?_;intros
   rw [hw102]
   exact k_ln2 _ (Nat.lt_succ_self _) ⟨_, _, _, _, _, _, _, h131, rfl, drop_next hd98, pin, pinh⟩
 rintro t o ⟨b123, b125, c126, pq1, pq2⟩
 refine pinnedQ pq1 pq2 ?_
 refine go ?_;intros
 refine w_cond rfl (fun c => ?_) (fun c => ?_)
 ·replace h := itt h c
  try rw [c]
  obtain ⟨h130, h⟩ := gd h
  refine go ?_;intros
  refine r_app (f := (eFeat false)) (xs := q88.2) (ys := ([a1] : (List Feat))) rfl (src_mv rfl rfl (by first | rfl | simp)) rfl rfl (by first | rfl | simp) h130 fun b128 c129 => ?_
  refine go ?_;intros
  cases h
  exact r_end
 replace h := itf h c
 try rw [c]
 refine go ?_;intros
 cases h
 exact r_end
theorem d_dh9 {G : Gam}  (a0 : (List Feat)) (a1 : Str) (r : Int) (h : gf_dh9 a0 a1 = some r) : Does G if_dh9 ks_dh9 (c_dh9.args (a0, a1)) [] (c_dh9.ans (a0, a1) r) := by
 refine does_pn (L := [(0, .ro (List.map (eFeat false) a0)), (1, .v (.string a1))]) (fun bs => pin) fun bs t o => ?_
 show vwp _ ib_dh9 _ _
 unfold ib_dh9
 refine w_ir ?_
 unfold gf_dh9 at h
 obtain ⟨hf18, h⟩ := gd h
 obtain ⟨q8, h19, h⟩ := bnd h
 refine go ?_;intros
 refine w_last (fun t o => ∃ q8_, q8 = .inr q8_ ∧ Pin t (ovr [] t) ∧ PinH o (ovh [] o)) ?_ ?_
 ·refine w_loop2 (fun n t o => ∃ l12 k10  , gl_dh9_1 a1 l12 k10  = some q8 ∧ n = l12.length ∧ (a0).drop k10 = l12 ∧ Pin t (ovr [(0, .ro (List.map (eFeat false) a0)), (1, .v (.string a1)), (5, .v (.int .i64 (k10 : Int)))] t) ∧ PinH o (ovh [] o)) _ ⟨_, _, h19, rfl, rfl, pin, pinh⟩ ?_
  rintro n t o ⟨l12, k10, h19, rfl, hd13, pq1, pq2⟩
  refine pinned pq1 pq2 ?_
  cases l12 with
  | nil =>
   have hge15 := drop_ge hd13
   rw [gl_dh9_1] at h19
   refine go ?_;intros
   rw [hge15]
   refine go ?_;intros
   cases h19
   exact k_cn ⟨_, rfl, pin, pinh⟩
  | cons x11 l12 =>
   have hlt14 := drop_lt hd13
   have hx16 := drop_ix hd13
   have hw17 := drop_wr hd13 hf18
   rw [gl_dh9_1] at h19
   refine go ?_;intros
   rw [hlt14]
   refine go ?_;intros
   refine r_iro rfl rfl hx16 rfl ?_
   refine go ?_;intros
   refine w_cond rfl (fun c => ?_) (fun c => ?_)
   ·replace h19 := itt h19 c
    try rw [c]
    refine go ?_;intros
    cases h19
    replace h : some _ = some _ := h
    cases h
    exact r_end
   replace h19 := itf h19 c
   try rw [c]
   refine go ?_;intros
   rw [hw17]
   exact k_ln2 _ (Nat.lt_succ_self _) ⟨_, _, h19, rfl, drop_next hd13, pin, pinh⟩
 rintro t o ⟨q8, rfl, pq1, pq2⟩
 refine pinnedQ pq1 pq2 ?_
 refine go ?_;intros
 cases h
 exact r_end
end Go.Proofs.AM
