/- Lemmas of the proof (KLF8), on an abstract machine. Conditions: none. -/
import Derived.Test.YtknajiljcemblabGreatKLD
set_option linter.unusedVariables false
set_option linter.unusedSimpArgs false
set_option maxRecDepth 100000
set_option maxHeartbeats 4000000
namespace Go.Proofs.AM
attribute [local irreducible] vwp vstps vstpLs vstp vdo vret kseq kblk kloop kend kcut kloop2 frzV renV shutK pfzV trnV unrV
theorem d_am9 {G : Gam} (H_dg9 : Has G c_dg9) (a0 : (List Feat)) (a1 : (List Feat)) (r : Bool) (h : gf_am9 a0 a1 = some r) : Does G if_am9 ks_am9 (c_am9.args (a0, a1)) [] (c_am9.ans (a0, a1) r) := by
 refine does_pn (L := [(0, .ro (List.map (eFeat false) a0)), (1, .ro (List.map (eFeat false) a1))]) (fun bs => pin) fun bs t o => ?_
 show vwp _ ib_am9 _ _
 unfold ib_am9
 refine w_ir ?_
 unfold gf_am9 at h
 obtain ⟨x1, h2, h⟩ := bnd h
 refine go ?_;intros
 refine c_call (c := c_dg9) (a0, a1) H_dg9 h2 fun ch => ?_
 refine go ?_;intros
 cases h
 exact r_end
theorem d_dj9 {G : Gam}  (a0 : (List Int)) (a1 : (List Int)) (r : Bool) (h : gf_dj9 a0 a1 = some r) : Does G if_dj9 ks_dj9 (c_dj9.args (a0, a1)) [] (c_dj9.ans (a0, a1) r) := by
 refine does_pn (L := [(0, .ro (List.map eInt a0)), (1, .ro (List.map eInt a1))]) (fun bs => pin) fun bs t o => ?_
 show vwp _ ib_dj9 _ _
 unfold ib_dj9
 refine w_ir ?_
 unfold gf_dj9 at h
 refine go ?_;intros
 refine w_cond rfl (fun c => ?_) (fun c => ?_)
 ·replace h := itt h (by first | exact c | (have c2 := c; simp only [List.length_map] at c2; exact c2))
  try rw [c]
  refine go ?_;intros
  cases h
  exact r_end
 replace h := itf h (by first | exact c | (have c2 := c; simp only [List.length_map] at c2; exact c2))
 try rw [c]
 obtain ⟨hf24, h⟩ := gd h
 obtain ⟨q14, h27, h⟩ := bnd h
 refine go ?_;intros
 refine w_last (fun t o => ∃ q14_, q14 = .inr q14_ ∧ Pin t (ovr [] t) ∧ PinH o (ovh [] o)) ?_ ?_
 ·refine w_loop2 (fun n t o => ∃ l18 k16  , gl_dj9_1 a1 l18 k16  = some q14 ∧ n = l18.length ∧ (a0).drop k16 = l18 ∧ Pin t (ovr [(0, .ro (List.map eInt a0)), (1, .ro (List.map eInt a1)), (12, .v (.int .i64 (a0.length : Int))), (13, .v (.int .i64 (k16 : Int)))] t) ∧ PinH o (ovh [] o)) _ ⟨_, _, h27, rfl, rfl, pin, pinh⟩ ?_
  rintro n t o ⟨l18, k16, h27, rfl, hd19, pq1, pq2⟩
  refine pinned pq1 pq2 ?_
  cases l18 with
  | nil =>
   have hge21 := drop_ge hd19
   rw [gl_dj9_1] at h27
   refine go ?_;intros
   rw [hge21]
   refine go ?_;intros
   cases h27
   exact k_cn ⟨_, rfl, pin, pinh⟩
  | cons x17 l18 =>
   have hlt20 := drop_lt hd19
   have hx22 := drop_ix hd19
   have hw23 := drop_wr hd19 hf24
   rw [gl_dj9_1] at h27
   refine go ?_;intros
   rw [hlt20]
   refine go ?_;intros
   refine r_iro rfl rfl hx22 rfl ?_
   obtain ⟨x25, h26, h27⟩ := bnd h27
   refine go ?_;intros
   refine r_iro rfl rfl h26 rfl ?_
   refine go ?_;intros
   refine w_cond rfl (fun c => ?_) (fun c => ?_)
   ·replace h27 := itt h27 c
    try rw [c]
    refine go ?_;intros
    cases h27
    replace h : some _ = some _ := h
    cases h
    exact r_end
   replace h27 := itf h27 c
   try rw [c]
   refine go ?_;intros
   rw [hw23]
   exact k_ln2 _ (Nat.lt_succ_self _) ⟨_, _, h27, rfl, drop_next hd19, pin, pinh⟩
 rintro t o ⟨q14, rfl, pq1, pq2⟩
 refine pinnedQ pq1 pq2 ?_
 refine go ?_;intros
 cases h
 exact r_end
theorem d_ba9 {G : Gam} (H_dj9 : Has G c_dj9) (H_am9 : Has G c_am9) (a0 : Commit) (a1 : Commit) (r : Bool) (h : gf_ba9 a0 a1 = some r) : Does G if_ba9 ks_ba9 (c_ba9.args (a0, a1)) [] (c_ba9.ans (a0, a1) r) := by
 refine does_pn (L := [(0, .agg [.ro (List.map eInt a0.up), .ro (List.map (eFeat false) a0.sheet), .v (.string a0.note)]), (1, .agg [.ro (List.map eInt a1.up), .ro (List.map (eFeat false) a1.sheet), .v (.string a1.note)])]) (fun bs => pin) fun bs t o => ?_
 show vwp _ ib_ba9 _ _
 unfold ib_ba9
 refine w_ir ?_
 unfold gf_ba9 at h
 obtain ⟨x3, h4, h⟩ := bnd h
 refine go ?_;intros
 refine c_call (c := c_dj9) (a0.up, a1.up) H_dj9 h4 fun ch => ?_
 refine go ?_;intros
 refine s_split rfl (fun c => ?_) (fun c => ?_)
 ·replace h := itt h c
  rw [c]
  obtain ⟨x5, h6, h⟩ := bnd h
  refine go ?_;intros
  refine c_call (c := c_am9) (a0.sheet, a1.sheet) H_am9 h6 fun ch => ?_
  refine go ?_;intros
  refine s_split rfl (fun c => ?_) (fun c => ?_)
  ·replace h := itt h c
   rw [c]
   refine go ?_;intros
   cases h
   exact r_end
  replace h := itf h c
  rw [c]
  refine go ?_;intros
  cases h
  exact r_end
 replace h := itf h c
 rw [c]
 refine go ?_;intros
 cases h
 exact r_end
theorem d_dq9 {G : Gam}  (a0 : (List Int)) (a1 : Int) (r : Int) (h : gf_dq9 a0 a1 = some r) : Does G if_dq9 ks_dq9 (c_dq9.args (a0, a1)) [] (c_dq9.ans (a0, a1) r) := by
 refine does_pn (L := [(0, .ro (List.map eInt a0)), (1, .v (.int .i64 a1))]) (fun bs => pin) fun bs t o => ?_
 show vwp _ ib_dq9 _ _
 unfold ib_dq9
 refine w_ir ?_
 unfold gf_dq9 at h
 obtain ⟨hf18, h⟩ := gd h
 obtain ⟨q8, h19, h⟩ := bnd h
 refine go ?_;intros
 refine w_last (fun t o => ∃ q8_, q8 = .inr q8_ ∧ Pin t (ovr [] t) ∧ PinH o (ovh [] o)) ?_ ?_
 ·refine w_loop2 (fun n t o => ∃ l12 k10  , gl_dq9_1 a1 l12 k10  = some q8 ∧ n = l12.length ∧ (a0).drop k10 = l12 ∧ Pin t (ovr [(0, .ro (List.map eInt a0)), (1, .v (.int .i64 a1)), (7, .v (.int .i64 (a0.length : Int))), (8, .v (.int .i64 (k10 : Int)))] t) ∧ PinH o (ovh [] o)) _ ⟨_, _, h19, rfl, rfl, pin, pinh⟩ ?_
  rintro n t o ⟨l12, k10, h19, rfl, hd13, pq1, pq2⟩
  refine pinned pq1 pq2 ?_
  cases l12 with
  | nil =>
   have hge15 := drop_ge hd13
   rw [gl_dq9_1] at h19
   refine go ?_;intros
   rw [hge15]
   refine go ?_;intros
   cases h19
   exact k_cn ⟨_, rfl, pin, pinh⟩
  | cons x11 l12 =>
   have hlt14 := drop_lt hd13
   have hx16 := drop_ix hd13
   have hw17 := drop_wr hd13 hf18
   rw [gl_dq9_1] at h19
   refine go ?_;intros
   rw [hlt14]
   refine go ?_;intros
   refine r_iro rfl rfl hx16 rfl ?_
   refine go ?_;intros
   refine w_cond rfl (fun c => ?_) (fun c => ?_)
   ·replace h19 := itt h19 c
    try rw [c]
    refine go ?_;intros
    cases h19
    replace h : some _ = some _ := h
    cases h
    exact r_end
   replace h19 := itf h19 c
   try rw [c]
   refine go ?_;intros
   rw [hw17]
   exact k_ln2 _ (Nat.lt_succ_self _) ⟨_, _, h19, rfl, drop_next hd13, pin, pinh⟩
 rintro t o ⟨q8, rfl, pq1, pq2⟩
 refine pinnedQ pq1 pq2 ?_
 refine go ?_;intros
 cases h
 exact r_end
theorem d_al9 {G : Gam} (H_aa9 : Has G c_aa9) (a0 : (List Feat)) (r : Bool) (h : gf_al9 a0 = some r) : Does G if_al9 ks_al9 (c_al9.args (a0)) [] (c_al9.ans (a0) r) := by
 refine does_pn (L := [(0, .ro (List.map (eFeat false) a0))]) (fun bs => pin) fun bs t o => ?_
 show vwp _ ib_al9 _ _
 unfold ib_al9
 refine w_ir ?_
 unfold gf_al9 at h
 obtain ⟨hf31, h⟩ := gd h
 obtain ⟨q21, h37, h⟩ := bnd h
 refine go ?_;intros
 refine w_last (fun t o => ∃ q21_, q21 = .inr q21_ ∧ Pin t (ovr [(0, .ro (List.map (eFeat false) a0))] t) ∧ PinH o (ovh [] o)) ?_ ?_
 ·refine w_loop2 (fun n t o => ∃ l25 k23  , gl_al9_1 a0 l25 k23  = some q21 ∧ n = l25.length ∧ (a0).drop k23 = l25 ∧ Pin t (ovr [(0, .ro (List.map (eFeat false) a0)), (5, .ro (List.map (eFeat false) a0)), (6, .v (.int .i64 (a0.length : Int))), (7, .v (.int .i64 (k23 : Int)))] t) ∧ PinH o (ovh [] o)) _ ⟨_, _, h37, rfl, rfl, pin, pinh⟩ ?_
  rintro n t o ⟨l25, k23, h37, rfl, hd26, pq1, pq2⟩
  refine pinned pq1 pq2 ?_
  cases l25 with
  | nil =>
   have hge28 := drop_ge hd26
   rw [gl_al9_1] at h37
   refine go ?_;intros
   rw [hge28]
   refine go ?_;intros
   cases h37
   exact k_cn ⟨_, rfl, pin, pinh⟩
  | cons x24 l25 =>
   have hlt27 := drop_lt hd26
   have hx29 := drop_ix hd26
   have hw30 := drop_wr hd26 hf31
   rw [gl_al9_1] at h37
   refine go ?_;intros
   rw [hlt27]
   refine go ?_;intros
   refine r_iro rfl rfl hx29 rfl ?_
   obtain ⟨x33, h34, h37⟩ := bnd h37
   refine go ?_;intros
   refine c_call (c := c_aa9) (x24) H_aa9 h34 fun ch => ?_
   refine go ?_;intros
   refine s_split rfl (fun c => ?_) (fun c => ?_)
   ·replace h37 := itt h37 c
    rw [c]
    refine go ?_;intros
    cases h37
    replace h : some _ = some _ := h
    cases h
    exact r_end
   replace h37 := itf h37 c
   rw [c]
   refine go ?_;intros
   refine s_split rfl (fun c => ?_) (fun c => ?_)
   ·replace h37 := itt h37 c
    rw [c]
    obtain ⟨x35, h36, h37⟩ := bnd h37
    refine go ?_;intros
    refine r_iro rfl rfl h36 rfl ?_
    refine go ?_;intros
    refine w_cond rfl (fun c => ?_) (fun c => ?_)
    ·replace h37 := itt h37 c
     try rw [c]
     refine go ?_;intros
     cases h37
     replace h : some _ = some _ := h
     cases h
     exact r_end
    replace h37 := itf h37 c
    try rw [c]
    refine go ?_;intros
    rw [hw30]
    exact k_ln2 _ (Nat.lt_succ_self _) ⟨_, _, h37, rfl, drop_next hd26, pin, pinh⟩
   replace h37 := itf h37 c
   rw [c]
   refine go ?_;intros
   rw [hw30]
   exact k_ln2 _ (Nat.lt_succ_self _) ⟨_, _, h37, rfl, drop_next hd26, pin, pinh⟩
 rintro t o ⟨q21, rfl, pq1, pq2⟩
 refine pinnedQ pq1 pq2 ?_
 refine go ?_;intros
 cases h
 exact r_end
theorem d_ae9 {G : Gam} (H_ba9 : Has G c_ba9) (a0 : Commit) (a1 : Commit) (r : Bool) (h : gf_ae9 a0 a1 = some r) : Does G if_ae9 ks_ae9 (c_ae9.args (a0, a1)) [] (c_ae9.ans (a0, a1) r) := by
 refine does_pn (L := [(0, .agg [.ro (List.map eInt a0.up), .ro (List.map (eFeat false) a0.sheet), .v (.string a0.note)]), (1, .rptr [.sl false 1 (List.map eInt a1.up), .sl false 4 (List.map (eFeat false) a1.sheet), .v (.string a1.note)])]) (fun bs => pin) fun bs t o => ?_
 show vwp _ ib_ae9 _ _
 unfold ib_ae9
 refine w_ir ?_
 unfold gf_ae9 at h
 obtain ⟨x2, h3, h⟩ := bnd h
 refine go ?_;intros
 refine c_call (c := c_ba9) (a0, a1) H_ba9 h3 fun ch => ?_
 refine go ?_;intros
 cases h
 exact r_end
theorem d_dn9 {G : Gam} (H_ae9 : Has G c_ae9) (a0 : (List Commit)) (a1 : Commit) (r : Int) (h : gf_dn9 a0 a1 = some r) : Does G if_dm9 ks_dm9 (c_dn9.args (a0, a1)) [] (c_dn9.ans (a0, a1) r) := by
 refine does_pn (L := [(0, .ro (List.map (eCommit false) a0)), (1, .fn 83 [.rptr [.sl false 1 (List.map eInt a1.up), .sl false 4 (List.map (eFeat false) a1.sheet), .v (.string a1.note)]])]) (fun bs => pin) fun bs t o => ?_
 show vwp _ ib_dm9 _ _
 unfold ib_dm9
 refine w_ir ?_
 unfold gf_dn9 at h
 obtain ⟨hf24, h⟩ := gd h
 obtain ⟨q14, h27, h⟩ := bnd h
 refine go ?_;intros
 refine w_last (fun t o => ∃ q14_, q14 = .inr q14_ ∧ Pin t (ovr [] t) ∧ PinH o (ovh [] o)) ?_ ?_
 ·refine w_loop2 (fun n t o => ∃ l18 k16  , gl_dn9_1 a1 l18 k16  = some q14 ∧ n = l18.length ∧ (a0).drop k16 = l18 ∧ Pin t (ovr [(0, .ro (List.map (eCommit false) a0)), (1, .fn 83 [.rptr [.sl false 1 (List.map eInt a1.up), .sl false 4 (List.map (eFeat false) a1.sheet), .v (.string a1.note)]]), (7, .v (.int .i64 (a0.length : Int))), (8, .v (.int .i64 (k16 : Int)))] t) ∧ PinH o (ovh [] o)) _ ⟨_, _, h27, rfl, rfl, pin, pinh⟩ ?_
  rintro n t o ⟨l18, k16, h27, rfl, hd19, pq1, pq2⟩
  refine pinned pq1 pq2 ?_
  cases l18 with
  | nil =>
   have hge21 := drop_ge hd19
   rw [gl_dn9_1] at h27
   refine go ?_;intros
   rw [hge21]
   refine go ?_;intros
   cases h27
   exact k_cn ⟨_, rfl, pin, pinh⟩
  | cons x17 l18 =>
   have hlt20 := drop_lt hd19
   have hx22 := drop_ix hd19
   have hw23 := drop_wr hd19 hf24
   rw [gl_dn9_1] at h27
   refine go ?_;intros
   rw [hlt20]
   refine go ?_;intros
   refine r_iro rfl rfl hx22 rfl ?_
   obtain ⟨x25, h26, h27⟩ := bnd h27
   refine go ?_;intros
   refine c_calld (c := c_ae9) (x17, a1) H_ae9 h26 fun ch => ?_
   refine go ?_;intros
   refine w_cond rfl (fun c => ?_) (fun c => ?_)
   ·replace h27 := itt h27 c
    try rw [c]
    refine go ?_;intros
    cases h27
    replace h : some _ = some _ := h
    cases h
    exact r_end
   replace h27 := itf h27 c
   try rw [c]
   refine go ?_;intros
   rw [hw23]
   exact k_ln2 _ (Nat.lt_succ_self _) ⟨_, _, h27, rfl, drop_next hd19, pin, pinh⟩
 rintro t o ⟨q14, rfl, pq1, pq2⟩
 refine pinnedQ pq1 pq2 ?_
 refine go ?_;intros
 cases h
 exact r_end
theorem d_ad9 {G : Gam} (H_dn9 : Has G c_dn9) (a0 : Repo) (a1 : Commit) (r : Int) (h : gf_ad9 a0 a1 = some r) : Does G if_ad9 ks_ad9 (c_ad9.args (a0, a1)) [] (c_ad9.ans (a0, a1) r) := by
 refine does_pn (L := [(0, .agg [.ro (List.map (eCommit false) a0.commits), .ro (List.map eHead a0.heads)]), (1, .agg [.ro (List.map eInt a1.up), .ro (List.map (eFeat false) a1.sheet), .v (.string a1.note)])]) (fun bs => pin) fun bs t o => ?_
 show vwp _ ib_ad9 _ _
 unfold ib_ad9
 refine w_ir ?_
 unfold gf_ad9 at h
 obtain ⟨x3, h4, h⟩ := bnd h
 refine go ?_;intros
 refine c_call (c := c_dn9) (a0.commits, a1) H_dn9 h4 fun ch => ?_
 refine go ?_;intros
 cases h
 exact r_end
theorem d_de9 {G : Gam} (H_dq9 : Has G c_dq9) (a0 : (List Int)) (a1 : Int) (r : Bool) (h : gf_de9 a0 a1 = some r) : Does G if_de9 ks_de9 (c_de9.args (a0, a1)) [] (c_de9.ans (a0, a1) r) := by
 refine does_pn (L := [(0, .ro (List.map eInt a0)), (1, .v (.int .i64 a1))]) (fun bs => pin) fun bs t o => ?_
 show vwp _ ib_de9 _ _
 unfold ib_de9
 refine w_ir ?_
 unfold gf_de9 at h
 obtain ⟨x1, h2, h⟩ := bnd h
 refine go ?_;intros
 refine c_call (c := c_dq9) (a0, a1) H_dq9 h2 fun ch => ?_
 refine go ?_;intros
 cases h
 exact r_end
theorem d_ag9 {G : Gam}  (a0 : Head) (a1 : Str) (r : Bool) (h : gf_ag9 a0 a1 = some r) : Does G if_ag9 ks_ag9 (c_ag9.args (a0, a1)) [] (c_ag9.ans (a0, a1) r) := by
 refine does_pn (L := [(0, .agg [.v (.string a0.name), .v (.int .i64 a0.at_)]), (1, .rptr [.v (.string a1)])]) (fun bs => pin) fun bs t o => ?_
 show vwp _ ib_ag9 _ _
 unfold ib_ag9
 refine w_ir ?_
 unfold gf_ag9 at h
 refine go ?_;intros
 cases h
 exact r_end
theorem d_dp9 {G : Gam} (H_ag9 : Has G c_ag9) (a0 : (List Head)) (a1 : Str) (r : Int) (h : gf_dp9 a0 a1 = some r) : Does G if_do9 ks_do9 (c_dp9.args (a0, a1)) [] (c_dp9.ans (a0, a1) r) := by
 refine does_pn (L := [(0, .ro (List.map eHead a0)), (1, .fn 77 [.rptr [.v (.string a1)]])]) (fun bs => pin) fun bs t o => ?_
 show vwp _ ib_do9 _ _
 unfold ib_do9
 refine w_ir ?_
 unfold gf_dp9 at h
 obtain ⟨hf24, h⟩ := gd h
 obtain ⟨q14, h27, h⟩ := bnd h
 refine go ?_;intros
 refine w_last (fun t o => ∃ q14_, q14 = .inr q14_ ∧ Pin t (ovr [] t) ∧ PinH o (ovh [] o)) ?_ ?_
 ·refine w_loop2 (fun n t o => ∃ l18 k16  , gl_dp9_1 a1 l18 k16  = some q14 ∧ n = l18.length ∧ (a0).drop k16 = l18 ∧ Pin t (ovr [(0, .ro (List.map eHead a0)), (1, .fn 77 [.rptr [.v (.string a1)]]), (7, .v (.int .i64 (a0.length : Int))), (8, .v (.int .i64 (k16 : Int)))] t) ∧ PinH o (ovh [] o)) _ ⟨_, _, h27, rfl, rfl, pin, pinh⟩ ?_
  rintro n t o ⟨l18, k16, h27, rfl, hd19, pq1, pq2⟩
  refine pinned pq1 pq2 ?_
  cases l18 with
  | nil =>
   have hge21 := drop_ge hd19
   rw [gl_dp9_1] at h27
   refine go ?_;intros
   rw [hge21]
   refine go ?_;intros
   cases h27
   exact k_cn ⟨_, rfl, pin, pinh⟩
  | cons x17 l18 =>
   have hlt20 := drop_lt hd19
   have hx22 := drop_ix hd19
   have hw23 := drop_wr hd19 hf24
   rw [gl_dp9_1] at h27
   refine go ?_;intros
   rw [hlt20]
   refine go ?_;intros
   refine r_iro rfl rfl hx22 rfl ?_
   obtain ⟨x25, h26, h27⟩ := bnd h27
   refine go ?_;intros
   refine c_calld (c := c_ag9) (x17, a1) H_ag9 h26 fun ch => ?_
   refine go ?_;intros
   refine w_cond rfl (fun c => ?_) (fun c => ?_)
   ·replace h27 := itt h27 c
    try rw [c]
    refine go ?_;intros
    cases h27
    replace h : some _ = some _ := h
    cases h
    exact r_end
   replace h27 := itf h27 c
   try rw [c]
   refine go ?_;intros
   rw [hw23]
   exact k_ln2 _ (Nat.lt_succ_self _) ⟨_, _, h27, rfl, drop_next hd19, pin, pinh⟩
 rintro t o ⟨q14, rfl, pq1, pq2⟩
 refine pinnedQ pq1 pq2 ?_
 refine go ?_;intros
 cases h
 exact r_end
theorem d_af9 {G : Gam} (H_dp9 : Has G c_dp9) (a0 : Repo) (a1 : Str) (r : Int) (h : gf_af9 a0 a1 = some r) : Does G if_af9 ks_af9 (c_af9.args (a0, a1)) [] (c_af9.ans (a0, a1) r) := by
 refine does_pn (L := [(0, .agg [.ro (List.map (eCommit false) a0.commits), .ro (List.map eHead a0.heads)]), (1, .v (.string a1))]) (fun bs => pin) fun bs t o => ?_
 show vwp _ ib_af9 _ _
 unfold ib_af9
 refine w_ir ?_
 unfold gf_af9 at h
 obtain ⟨x3, h4, h⟩ := bnd h
 refine go ?_;intros
 refine c_call (c := c_dp9) (a0.heads, a1) H_dp9 h4 fun ch => ?_
 refine go ?_;intros
 cases h
 exact r_end
theorem d_ai9 {G : Gam} (H_bb9 : Has G c_bb9) (a0 : Repo) (a1 : Int) (r : Bool) (h : gf_ai9 a0 a1 = some r) : Does G if_ai9 ks_ai9 (c_ai9.args (a0, a1)) [] (c_ai9.ans (a0, a1) r) := by
 refine does_pn (L := [(0, .agg [.ro (List.map (eCommit false) a0.commits), .ro (List.map eHead a0.heads)]), (1, .v (.int .i64 a1))]) (fun bs => pin) fun bs t o => ?_
 show vwp _ ib_ai9 _ _
 unfold ib_ai9
 refine w_ir ?_
 unfold gf_ai9 at h
 obtain ⟨x2, h3, h⟩ := bnd h
 refine go ?_;intros
 refine c_call (c := c_bb9) (a1, 0, (IntKind.i64.wrap ((a0.commits.length : Int) - 1))) H_bb9 h3 fun ch => ?_
 refine go ?_;intros
 cases h
 exact r_end
theorem d_ax9 {G : Gam}  (a0 : Shape) (r : Shape) (h : gf_ax9 a0 = some r) : Does G if_ax9 ks_ax9 (c_ax9.args (a0)) [] (c_ax9.ans (a0) r) := by
 refine does_pn (L := [(0, .agg [.v (.int .i64 a0.kind), .ro (List.map ePt a0.pts)])]) (fun bs => pin) fun bs t o => ?_
 show vwp _ ib_ax9 _ _
 unfold ib_ax9
 refine w_ir ?_
 unfold gf_ax9 at h
 obtain ⟨h6, h⟩ := gd h
 refine go ?_;intros
 refine r_app (f := ePt) (xs := ([] : (List Pt))) (ys := a0.pts) rfl (src_ro (fun _ => rfl) (fun _ => rfl)) rfl rfl (by first | rfl | simp) h6 fun b4 c5 => ?_
 refine go ?_;intros
 cases h
 exact r_end
theorem d_av9 {G : Gam} (H_ax9 : Has G c_ax9) (a0 : Feat) (r : Feat) (h : gf_av9 a0 = some r) : Does G if_av9 ks_av9 (c_av9.args (a0)) [] (c_av9.ans (a0) r) := by
 refine does_pn (L := [(0, .agg [.v (.string a0.id), .v (.int .i64 a0.shape.kind), .ro (List.map ePt a0.shape.pts), .ro (List.map eTag a0.tags)])]) (fun bs => pin) fun bs t o => ?_
 show vwp _ ib_av9 _ _
 unfold ib_av9
 refine w_ir ?_
 unfold gf_av9 at h
 obtain ⟨x3, h4, h⟩ := bnd h
 refine go ?_;intros
 refine c_call (c := c_ax9) (a0.shape) H_ax9 h4 fun ch => ?_
 obtain ⟨h10, h⟩ := gd h
 refine go ?_;intros
 refine r_app (f := eTag) (xs := ([] : (List Tag))) (ys := a0.tags) rfl (src_ro (fun _ => rfl) (fun _ => rfl)) rfl rfl (by first | rfl | simp) h10 fun b8 c9 => ?_
 refine go ?_;intros
 cases h
 exact r_end
theorem d_ay9 {G : Gam} (H_av9 : Has G c_av9) (a0 : (List Feat)) (r : (List Feat)) (h : gf_ay9 a0 = some r) : Does G if_ay9 ks_ay9 (c_ay9.args (a0)) [] (c_ay9.ans (a0) r) := by
 refine does_pn (L := [(0, .ro (List.map (eFeat false) a0))]) (fun bs => pin) fun bs t o => ?_
 show vwp _ ib_ay9 _ _
 unfold ib_ay9
 refine w_ir ?_
 unfold gf_ay9 at h
 obtain ⟨hf60, h⟩ := gd h
 obtain ⟨q47, h75, h⟩ := bnd h
 refine go ?_;intros
 refine w_last (fun t o => ∃ b73 c74, Pin t (ovr [(3, .ref 48 b73 c74 0 q47.length 100)] t) ∧ PinH o (ovh [(48, ent b73 c74 100 (List.map (eFeat true) q47))] o)) ?_ ?_
 ·refine w_loop2 (fun n t o => ∃ l54 k52 v49 b50 c51, gl_ay9_1 l54 k52 v49 = some q47 ∧ n = l54.length ∧ (a0).drop k52 = l54 ∧ Pin t (ovr [(3, .ref 48 b50 c51 0 v49.length 100), (7, .ro (List.map (eFeat false) a0)), (8, .v (.int .i64 (a0.length : Int))), (9, .v (.int .i64 (k52 : Int)))] t) ∧ PinH o (ovh [(48, ent b50 c51 100 (List.map (eFeat true) v49))] o)) _ ⟨_, _, _, _, _, h75, rfl, rfl, pin, pinh⟩ ?_
  rintro n t o ⟨l54, k52, v49, b50, c51, h75, rfl, hd55, pq1, pq2⟩
  refine pinned pq1 pq2 ?_
  cases l54 with
  | nil =>
   have hge57 := drop_ge hd55
   rw [gl_ay9_1] at h75
   refine go ?_;intros
   rw [hge57]
   refine go ?_;intros
   cases h75
   exact k_cn ⟨_, _, pin, pinh⟩
  | cons x53 l54 =>
   have hlt56 := drop_lt hd55
   have hx58 := drop_ix hd55
   have hw59 := drop_wr hd55 hf60
   rw [gl_ay9_1] at h75
   refine go ?_;intros
   rw [hlt56]
   refine go ?_;intros
   refine r_iro rfl rfl hx58 rfl ?_
   obtain ⟨x62, h63, h75⟩ := bnd h75
   refine go ?_;intros
   refine c_call (c := c_av9) (x53) H_av9 h63 fun ch => ?_
   refine go ?_;intros
   try simp only [take_map_len, take_ent]
   obtain ⟨h71, h75⟩ := gd h75
   refine go ?_;intros
   refine r_app (f := (eFeat true)) (xs := v49) (ys := ([x62] : (List Feat))) rfl (src_mv rfl rfl (by first | rfl | simp)) rfl rfl (by first | rfl | simp) h71 fun b69 c70 => ?_
   refine go ?_;intros
   rw [hw59]
   exact k_ln2 _ (Nat.lt_succ_self _) ⟨_, _, _, _, _, h75, rfl, drop_next hd55, pin, pinh⟩
 rintro t o ⟨b73, c74, pq1, pq2⟩
 refine pinnedQ pq1 pq2 ?_
 refine go ?_;intros
 cases h
 exact r_end
theorem d_au9 {G : Gam} (H_ay9 : Has G c_ay9) (a0 : Commit) (r : Commit) (h : gf_au9 a0 = some r) : Does G if_au9 ks_au9 (c_au9.args (a0)) [] (c_au9.ans (a0) r) := by
 refine does_pn (L := [(0, .agg [.ro (List.map eInt a0.up), .ro (List.map (eFeat false) a0.sheet), .v (.string a0.note)])]) (fun bs => pin) fun bs t o => ?_
 show vwp _ ib_au9 _ _
 unfold ib_au9
 refine w_ir ?_
 unfold gf_au9 at h
 obtain ⟨h6, h⟩ := gd h
 refine go ?_;intros
 refine r_app (f := eInt) (xs := ([] : (List Int))) (ys := a0.up) rfl (src_ro (fun _ => rfl) (fun _ => rfl)) rfl rfl (by first | rfl | simp) h6 fun b4 c5 => ?_
 obtain ⟨x7, h8, h⟩ := bnd h
 refine go ?_;intros
 refine c_call (c := c_ay9) (a0.sheet) H_ay9 h8 fun ch => ?_
 refine go ?_;intros
 cases h
 exact r_end
theorem d_ac9 {G : Gam} (H_bb9 : Has G c_bb9) (H_al9 : Has G c_al9) (H_as9 : Has G c_as9) (H_ad9 : Has G c_ad9) (H_de9 : Has G c_de9) (H_af9 : Has G c_af9) (H_ai9 : Has G c_ai9) (a0 : Repo) (r : Bool) (h : gf_ac9 a0 = some r) : Does G if_ac9 ks_ac9 (c_ac9.args (a0)) [] (c_ac9.ans (a0) r) := by
 refine does_pn (L := [(0, .agg [.ro (List.map (eCommit false) a0.commits), .ro (List.map eHead a0.heads)])]) (fun bs => pin) fun bs t o => ?_
 show vwp _ ib_ac9 _ _
 unfold ib_ac9
 refine w_ir ?_
 unfold gf_ac9 at h
 obtain ⟨x2, h3, h⟩ := bnd h
 refine go ?_;intros
 refine c_call (c := c_bb9) ((a0.commits.length : Int), 1, 14) H_bb9 h3 fun ch => ?_
 refine go ?_;intros
 refine s_split rfl (fun c => ?_) (fun c => ?_)
 ·replace h := itt h c
  rw [c]
  refine go ?_;intros
  cases h
  exact r_end
 replace h := itf h c
 rw [c]
 obtain ⟨x4, h5, h⟩ := bnd h
 refine go ?_;intros
 refine c_call (c := c_bb9) ((a0.heads.length : Int), 1, 4) H_bb9 h5 fun ch => ?_
 refine go ?_;intros
 refine w_cond rfl (fun c => ?_) (fun c => ?_)
 ·replace h := itt h c
  try rw [c]
  refine go ?_;intros
  cases h
  exact r_end
 replace h := itf h c
 try rw [c]
 obtain ⟨hf197, h⟩ := gd h
 obtain ⟨q186, h305, h⟩ := bnd h
 refine go ?_;intros
 refine w_last (fun t o => ∃ q186_, q186 = .inr q186_ ∧ ∃ b255, Pin t (ovr [(1, .ptr 8 b255 210 0 0)] t) ∧ PinH o (ovh [(8, ⟨b255, 1, 210, true, [[.sl false 3 (List.map (eCommit false) a0.commits), .sl false 2 (List.map eHead a0.heads)]]⟩)] o)) ?_ ?_
 ·refine w_loop2 (fun n t o => ∃ l191 k189  b188, gl_ac9_4 a0 l191 k189  = some q186 ∧ n = l191.length ∧ (a0.commits).drop k189 = l191 ∧ Pin t (ovr [(1, .ptr 8 b188 210 0 0), (22, .ro (List.map (eCommit false) a0.commits)), (23, .v (.int .i64 (a0.commits.length : Int))), (24, .v (.int .i64 (k189 : Int)))] t) ∧ PinH o (ovh [(8, ⟨b188, 1, 210, true, [[.sl false 3 (List.map (eCommit false) a0.commits), .sl false 2 (List.map eHead a0.heads)]]⟩)] o)) _ ⟨_, _, _, h305, rfl, rfl, pin, pinh⟩ ?_
  rintro n t o ⟨l191, k189, b188, h305, rfl, hd192, pq1, pq2⟩
  refine pinned pq1 pq2 ?_
  cases l191 with
  | nil =>
   have hge194 := drop_ge hd192
   rw [gl_ac9_4] at h305
   refine go ?_;intros
   rw [hge194]
   refine go ?_;intros
   cases h305
   exact k_cn ⟨_, rfl, _, pin, pinh⟩
  | cons x190 l191 =>
   have hlt193 := drop_lt hd192
   have hx195 := drop_ix hd192
   have hw196 := drop_wr hd192 hf197
   rw [gl_ac9_4] at h305
   refine go ?_;intros
   rw [hlt193]
   refine go ?_;intros
   refine r_iro rfl rfl hx195 rfl ?_
   obtain ⟨x199, h200, h305⟩ := bnd h305
   refine go ?_;intros
   refine c_call (c := c_al9) (x190.sheet) H_al9 h200 fun ch => ?_
   refine go ?_;intros
   refine s_split rfl (fun c => ?_) (fun c => ?_)
   ·replace h305 := itt h305 c
    rw [c]
    refine go ?_;intros
    cases h305
    replace h : some _ = some _ := h
    cases h
    exact r_end
   replace h305 := itf h305 c
   rw [c]
   obtain ⟨x201, h202, h305⟩ := bnd h305
   refine go ?_;intros
   refine c_call (c := c_as9) (x190.note) H_as9 h202 fun ch => ?_
   refine go ?_;intros
   refine s_split rfl (fun c => ?_) (fun c => ?_)
   ·replace h305 := itt h305 c
    rw [c]
    refine go ?_;intros
    cases h305
    replace h : some _ = some _ := h
    cases h
    exact r_end
   replace h305 := itf h305 c
   rw [c]
   obtain ⟨x203, h204, h305⟩ := bnd h305
   refine go ?_;intros
   refine c_call (c := c_ad9) (a0, x190) H_ad9 h204 fun ch => ?_
   refine go ?_;intros
   refine s_split rfl (fun c => ?_) (fun c => ?_)
   ·replace h305 := itt h305 c
    rw [c]
    refine go ?_;intros
    cases h305
    replace h : some _ = some _ := h
    cases h
    exact r_end
   replace h305 := itf h305 c
   rw [c]
   refine go ?_;intros
   refine s_split rfl (fun c => ?_) (fun c => ?_)
   ·replace h305 := itt h305 (by first | exact c | (have c2 := c; simp only [List.length_map] at c2; exact c2))
    rw [c]
    refine go ?_;intros
    cases h305
    replace h : some _ = some _ := h
    cases h
    exact r_end
   replace h305 := itf h305 (by first | exact c | (have c2 := c; simp only [List.length_map] at c2; exact c2))
   rw [c]
   refine go ?_;intros
   refine w_cond rfl (fun c => ?_) (fun c => ?_)
   ·replace h305 := itt h305 (by first | exact c | (have c2 := c; simp only [List.length_map] at c2; exact c2))
    try rw [c]
    refine go ?_;intros
    cases h305
    replace h : some _ = some _ := h
    cases h
    exact r_end
   replace h305 := itf h305 (by first | exact c | (have c2 := c; simp only [List.length_map] at c2; exact c2))
   try rw [c]
   obtain ⟨hf246, h305⟩ := gd h305
   obtain ⟨q234, h306, h305⟩ := bnd h305
   refine go ?_;intros
   refine w_last (fun t o => ∃ q234_, q234 = .inr q234_ ∧ ∃ b253 b254, Pin t (ovr [(1, .ptr 8 b253 210 0 0), (22, .ro (List.map (eCommit false) a0.commits)), (23, .v (.int .i64 (a0.commits.length : Int))), (24, .v (.int .i64 (k189 : Int))), (34, .ptr 32 b254 115 0 2), (35, .v (.string x190.note)), (36, .v (.bool x201)), (37, .v (.bool false)), (40, .agg [.ro (List.map (eCommit false) a0.commits), .ro (List.map eHead a0.heads)]), (41, .agg [.ro (List.map eInt x190.up), .ro (List.map (eFeat false) x190.sheet), .v (.string x190.note)]), (42, .v (.int .i64 x203)), (43, .v (.int .i64 (k189 : Int))), (44, .v (.bool false)), (47, .v (.int .i64 (k189 : Int))), (48, .v (.bool ((k189 : Int) == 0))), (49, .ptr 32 b254 115 0 0), (50, .ro (List.map eInt x190.up)), (51, .v (.int .i64 (x190.up.length : Int))), (52, .v (.bool ((x190.up.length : Int) == 0))), (53, .v (.bool false)), (56, .ptr 32 b254 115 0 0), (57, .ro (List.map eInt x190.up)), (58, .v (.int .i64 (x190.up.length : Int))), (59, .v (.bool false))] t) ∧ PinH o (ovh [(8, ⟨b253, 1, 210, true, [[.sl false 3 (List.map (eCommit false) a0.commits), .sl false 2 (List.map eHead a0.heads)]]⟩), (32, ⟨b254, 1, 115, true, [[.sl false 1 (List.map eInt x190.up), .sl false 4 (List.map (eFeat false) x190.sheet), .v (.string x190.note)]]⟩)] o)) ?_ ?_
   ·refine w_loop2 (fun n t o => ∃ l240 k238  b236 b237, gl_ac9_5 k189 x190 l240 k238  = some q234 ∧ n = l240.length ∧ (x190.up).drop k238 = l240 ∧ Pin t (ovr [(1, .ptr 8 b236 210 0 0), (3, .v (.int .i64 (k189 : Int))), (4, .ptr 32 b237 115 0 0), (22, .ro (List.map (eCommit false) a0.commits)), (23, .v (.int .i64 (a0.commits.length : Int))), (24, .v (.int .i64 (k189 : Int))), (34, .ptr 32 b237 115 0 2), (35, .v (.string x190.note)), (36, .v (.bool x201)), (37, .v (.bool false)), (40, .agg [.ro (List.map (eCommit false) a0.commits), .ro (List.map eHead a0.heads)]), (41, .agg [.ro (List.map eInt x190.up), .ro (List.map (eFeat false) x190.sheet), .v (.string x190.note)]), (42, .v (.int .i64 x203)), (43, .v (.int .i64 (k189 : Int))), (44, .v (.bool false)), (47, .v (.int .i64 (k189 : Int))), (48, .v (.bool ((k189 : Int) == 0))), (49, .ptr 32 b237 115 0 0), (50, .ro (List.map eInt x190.up)), (51, .v (.int .i64 (x190.up.length : Int))), (52, .v (.bool ((x190.up.length : Int) == 0))), (53, .v (.bool false)), (56, .ptr 32 b237 115 0 0), (57, .ro (List.map eInt x190.up)), (58, .v (.int .i64 (x190.up.length : Int))), (59, .v (.bool false)), (62, .ro (List.map eInt x190.up)), (63, .v (.int .i64 (x190.up.length : Int))), (64, .v (.int .i64 (k238 : Int)))] t) ∧ PinH o (ovh [(8, ⟨b236, 1, 210, true, [[.sl false 3 (List.map (eCommit false) a0.commits), .sl false 2 (List.map eHead a0.heads)]]⟩), (32, ⟨b237, 1, 115, true, [[.sl false 1 (List.map eInt x190.up), .sl false 4 (List.map (eFeat false) x190.sheet), .v (.string x190.note)]]⟩)] o)) _ ⟨_, _, _, _, h306, rfl, rfl, pin, pinh⟩ ?_
    rintro n t o ⟨l240, k238, b236, b237, h306, rfl, hd241, pq1, pq2⟩
    refine pinned pq1 pq2 ?_
    cases l240 with
    | nil =>
     have hge243 := drop_ge hd241
     rw [gl_ac9_5] at h306
     refine go ?_;intros
     rw [hge243]
     refine go ?_;intros
     cases h306
     exact k_cn ⟨_, rfl, _, _, pin, pinh⟩
    | cons x239 l240 =>
     have hlt242 := drop_lt hd241
     have hx244 := drop_ix hd241
     have hw245 := drop_wr hd241 hf246
     rw [gl_ac9_5] at h306
     refine go ?_;intros
     rw [hlt242]
     refine go ?_;intros
     refine r_iro rfl rfl hx244 rfl ?_
     obtain ⟨x247, h248, h306⟩ := bnd h306
     refine go ?_;intros
     refine c_call (c := c_bb9) (x239, 0, (IntKind.i64.wrap ((k189 : Int) - 1))) H_bb9 h248 fun ch => ?_
     refine go ?_;intros
     refine s_split rfl (fun c => ?_) (fun c => ?_)
     ·replace h306 := itt h306 c
      rw [c]
      refine go ?_;intros
      cases h306
      replace h305 : some _ = some _ := h305
      cases h305
      replace h : some _ = some _ := h
      cases h
      exact r_end
     replace h306 := itf h306 c
     rw [c]
     obtain ⟨x249, h250, h306⟩ := bnd h306
     refine go ?_;intros
     refine r_sls (f := eInt) rfl rfl rfl h250 (fun _ => rfl) ?_
     obtain ⟨x251, h252, h306⟩ := bnd h306
     refine go ?_;intros
     refine c_call (c := c_de9) (x249, x239) H_de9 h252 fun ch => ?_
     refine go ?_;intros
     refine w_cond rfl (fun c => ?_) (fun c => ?_)
     ·replace h306 := itt h306 c
      try rw [c]
      refine go ?_;intros
      cases h306
      replace h305 : some _ = some _ := h305
      cases h305
      replace h : some _ = some _ := h
      cases h
      exact r_end
     replace h306 := itf h306 c
     try rw [c]
     refine go ?_;intros
     rw [hw245]
     exact k_ln2 _ (Nat.lt_succ_self _) ⟨_, _, _, _, h306, rfl, drop_next hd241, pin, pinh⟩
   rintro t o ⟨q234, rfl, b253, b254, pq1, pq2⟩
   refine pinnedQ pq1 pq2 ?_
   refine go ?_;intros
   rw [hw196]
   exact k_ln2 _ (Nat.lt_succ_self _) ⟨_, _, _, h305, rfl, drop_next hd192, pin, pinh⟩
 rintro t o ⟨q186, rfl, b255, pq1, pq2⟩
 refine pinnedQ pq1 pq2 ?_
 obtain ⟨hf297, h⟩ := gd h
 obtain ⟨q286, h307, h⟩ := bnd h
 refine go ?_;intros
 refine w_last (fun t o => ∃ q286_, q286 = .inr q286_ ∧ Pin t (ovr [] t) ∧ PinH o (ovh [] o)) ?_ ?_
 ·refine w_loop2 (fun n t o => ∃ l291 k289  b288, gl_ac9_6 a0 l291 k289  = some q286 ∧ n = l291.length ∧ (a0.heads).drop k289 = l291 ∧ Pin t (ovr [(1, .ptr 8 b288 210 0 0), (85, .ro (List.map eHead a0.heads)), (86, .v (.int .i64 (a0.heads.length : Int))), (87, .v (.int .i64 (k289 : Int)))] t) ∧ PinH o (ovh [(8, ⟨b288, 1, 210, true, [[.sl false 3 (List.map (eCommit false) a0.commits), .sl false 2 (List.map eHead a0.heads)]]⟩)] o)) _ ⟨_, _, _, h307, rfl, rfl, pin, pinh⟩ ?_
  rintro n t o ⟨l291, k289, b288, h307, rfl, hd292, pq1, pq2⟩
  refine pinned pq1 pq2 ?_
  cases l291 with
  | nil =>
   have hge294 := drop_ge hd292
   rw [gl_ac9_6] at h307
   refine go ?_;intros
   rw [hge294]
   refine go ?_;intros
   cases h307
   exact k_cn ⟨_, rfl, pin, pinh⟩
  | cons x290 l291 =>
   have hlt293 := drop_lt hd292
   have hx295 := drop_ix hd292
   have hw296 := drop_wr hd292 hf297
   rw [gl_ac9_6] at h307
   refine go ?_;intros
   rw [hlt293]
   refine go ?_;intros
   refine r_iro rfl rfl hx295 rfl ?_
   obtain ⟨x299, h300, h307⟩ := bnd h307
   refine go ?_;intros
   refine c_call (c := c_as9) (x290.name) H_as9 h300 fun ch => ?_
   refine go ?_;intros
   refine s_split rfl (fun c => ?_) (fun c => ?_)
   ·replace h307 := itt h307 c
    rw [c]
    refine go ?_;intros
    cases h307
    replace h : some _ = some _ := h
    cases h
    exact r_end
   replace h307 := itf h307 c
   rw [c]
   obtain ⟨x301, h302, h307⟩ := bnd h307
   refine go ?_;intros
   refine c_call (c := c_af9) (a0, x290.name) H_af9 h302 fun ch => ?_
   refine go ?_;intros
   refine s_split rfl (fun c => ?_) (fun c => ?_)
   ·replace h307 := itt h307 c
    rw [c]
    refine go ?_;intros
    cases h307
    replace h : some _ = some _ := h
    cases h
    exact r_end
   replace h307 := itf h307 c
   rw [c]
   obtain ⟨x303, h304, h307⟩ := bnd h307
   refine go ?_;intros
   refine c_call (c := c_ai9) (a0, x290.at_) H_ai9 h304 fun ch => ?_
   refine go ?_;intros
   refine w_cond rfl (fun c => ?_) (fun c => ?_)
   ·replace h307 := itt h307 c
    try rw [c]
    refine go ?_;intros
    cases h307
    replace h : some _ = some _ := h
    cases h
    exact r_end
   replace h307 := itf h307 c
   try rw [c]
   refine go ?_;intros
   rw [hw296]
   exact k_ln2 _ (Nat.lt_succ_self _) ⟨_, _, _, h307, rfl, drop_next hd292, pin, pinh⟩
 rintro t o ⟨q286, rfl, pq1, pq2⟩
 refine pinnedQ pq1 pq2 ?_
 refine go ?_;intros
 cases h
 exact r_end
end Go.Proofs.AM
