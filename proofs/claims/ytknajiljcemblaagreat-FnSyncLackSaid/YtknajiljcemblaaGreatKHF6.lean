/- Lemmas of the proof (KHF6), on an abstract machine. Conditions: none. -/
import Derived.Test.YtknajiljcemblaaGreatKHD
set_option linter.unusedVariables false
set_option linter.unusedSimpArgs false
set_option maxRecDepth 100000
set_option maxHeartbeats 4000000
namespace Go.Proofs.AM
attribute [local irreducible] vwp vstps vstpLs vstp vdo vret kseq kblk kloop kend kcut kloop2 frzV renV shutK pfzV trnV unrV
theorem d_ab9 {G : Gam} (H_am9 : Has G c_am9) (H_bk9 : Has G c_bk9) (a0 : Feat) (a1 : Feat) (r : Bool) (h : gf_ab9 a0 a1 = some r) : Does G if_ab9 ks_ab9 (c_ab9.args (a0, a1)) [] (c_ab9.ans (a0, a1) r) := by
 refine does_pn (L := [(0, .agg [.v (.string a0.id), .v (.int .i64 a0.shape.kind), .ro (List.map ePt a0.shape.pts), .ro (List.map eTag a0.tags)]), (1, .agg [.v (.string a1.id), .v (.int .i64 a1.shape.kind), .ro (List.map ePt a1.shape.pts), .ro (List.map eTag a1.tags)])]) (fun bs => pin) fun bs t o => ?_
 show vwp _ ib_ab9 _ _
 unfold ib_ab9
 refine w_ir ?_
 unfold gf_ab9 at h
 refine go ?_;intros
 refine s_split rfl (fun c => ?_) (fun c => ?_)
 ·replace h := itt h c
  rw [c]
  obtain ⟨x3, h4, h⟩ := bnd h
  refine go ?_;intros
  refine c_call (c := c_am9) (a0.shape, a1.shape) H_am9 h4 fun ch => ?_
  refine go ?_;intros
  refine s_split rfl (fun c => ?_) (fun c => ?_)
  ·replace h := itt h c
   rw [c]
   obtain ⟨x5, h6, h⟩ := bnd h
   refine go ?_;intros
   refine c_call (c := c_bk9) (a0.tags, a1.tags) H_bk9 h6 fun ch => ?_
   refine go ?_;intros
   cases h
   exact r_end
  replace h := itf h c
  rw [c]
  refine go ?_;intros
  cases h
  exact r_end
 replace h := itf h c
 rw [c]
 refine go ?_;intros
 cases h
 exact r_end
theorem d_bi9 {G : Gam} (H_ab9 : Has G c_ab9) (a0 : (List Feat)) (a1 : (List Feat)) (r : Bool) (h : gf_bi9 a0 a1 = some r) : Does G if_bh9 ks_bh9 (c_bi9.args (a0, a1)) [] (c_bi9.ans (a0, a1) r) := by
 refine does_pn (L := [(0, .ro (List.map (eFeat false) a0)), (1, .ro (List.map (eFeat false) a1)), (2, .fn 130 [])]) (fun bs => pin) fun bs t o => ?_
 show vwp _ ib_bh9 _ _
 unfold ib_bh9
 refine w_ir ?_
 unfold gf_bi9 at h
 refine go ?_;intros
 refine w_cond rfl (fun c => ?_) (fun c => ?_)
 ·replace h := itt h (by first | exact c | (have c2 := c; simp only [List.length_map] at c2; exact c2))
  try rw [c]
  refine go ?_;intros
  cases h
  exact r_end
 replace h := itf h (by first | exact c | (have c2 := c; simp only [List.length_map] at c2; exact c2))
 try rw [c]
 obtain ⟨hf36, h⟩ := gd h
 obtain ⟨q26, h43, h⟩ := bnd h
 refine go ?_;intros
 refine w_last (fun t o => ∃ q26_, q26 = .inr q26_ ∧ Pin t (ovr [] t) ∧ PinH o (ovh [] o)) ?_ ?_
 ·refine w_loop2 (fun n t o => ∃ l30 k28  , gl_bi9_1 a1 l30 k28  = some q26 ∧ n = l30.length ∧ (a0).drop k28 = l30 ∧ Pin t (ovr [(1, .ro (List.map (eFeat false) a1)), (2, .fn 130 []), (15, .ro (List.map (eFeat false) a0)), (16, .v (.int .i64 (a0.length : Int))), (17, .v (.int .i64 (k28 : Int)))] t) ∧ PinH o (ovh [] o)) _ ⟨_, _, h43, rfl, rfl, pin, pinh⟩ ?_
  rintro n t o ⟨l30, k28, h43, rfl, hd31, pq1, pq2⟩
  refine pinned pq1 pq2 ?_
  cases l30 with
  | nil =>
   have hge33 := drop_ge hd31
   rw [gl_bi9_1] at h43
   refine go ?_;intros
   rw [hge33]
   refine go ?_;intros
   cases h43
   exact k_cn ⟨_, rfl, pin, pinh⟩
  | cons x29 l30 =>
   have hlt32 := drop_lt hd31
   have hx34 := drop_ix hd31
   have hw35 := drop_wr hd31 hf36
   rw [gl_bi9_1] at h43
   refine go ?_;intros
   rw [hlt32]
   refine go ?_;intros
   refine r_iro rfl rfl hx34 rfl ?_
   obtain ⟨x38, h39, h43⟩ := bnd h43
   refine go ?_;intros
   refine r_iro rfl rfl h39 rfl ?_
   obtain ⟨x41, h42, h43⟩ := bnd h43
   refine go ?_;intros
   refine c_calld (c := c_ab9) (x29, x38) H_ab9 h42 fun ch => ?_
   refine go ?_;intros
   refine w_cond rfl (fun c => ?_) (fun c => ?_)
   ·replace h43 := itt h43 c
    try rw [c]
    refine go ?_;intros
    cases h43
    replace h : some _ = some _ := h
    cases h
    exact r_end
   replace h43 := itf h43 c
   try rw [c]
   refine go ?_;intros
   rw [hw35]
   exact k_ln2 _ (Nat.lt_succ_self _) ⟨_, _, h43, rfl, drop_next hd31, pin, pinh⟩
 rintro t o ⟨q26, rfl, pq1, pq2⟩
 refine pinnedQ pq1 pq2 ?_
 refine go ?_;intros
 cases h
 exact r_end
theorem d_ao9 {G : Gam} (H_bi9 : Has G c_bi9) (a0 : (List Feat)) (a1 : (List Feat)) (r : Bool) (h : gf_ao9 a0 a1 = some r) : Does G if_ao9 ks_ao9 (c_ao9.args (a0, a1)) [] (c_ao9.ans (a0, a1) r) := by
 refine does_pn (L := [(0, .ro (List.map (eFeat false) a0)), (1, .ro (List.map (eFeat false) a1))]) (fun bs => pin) fun bs t o => ?_
 show vwp _ ib_ao9 _ _
 unfold ib_ao9
 refine w_ir ?_
 unfold gf_ao9 at h
 obtain ⟨x1, h2, h⟩ := bnd h
 refine go ?_;intros
 refine c_call (c := c_bi9) (a0, a1) H_bi9 h2 fun ch => ?_
 refine go ?_;intros
 cases h
 exact r_end
theorem d_bl9 {G : Gam}  (a0 : (List Int)) (a1 : (List Int)) (r : Bool) (h : gf_bl9 a0 a1 = some r) : Does G if_bl9 ks_bl9 (c_bl9.args (a0, a1)) [] (c_bl9.ans (a0, a1) r) := by
 refine does_pn (L := [(0, .ro (List.map eInt a0)), (1, .ro (List.map eInt a1))]) (fun bs => pin) fun bs t o => ?_
 show vwp _ ib_bl9 _ _
 unfold ib_bl9
 refine w_ir ?_
 unfold gf_bl9 at h
 refine go ?_;intros
 refine w_cond rfl (fun c => ?_) (fun c => ?_)
 ·replace h := itt h (by first | exact c | (have c2 := c; simp only [List.length_map] at c2; exact c2))
  try rw [c]
  refine go ?_;intros
  cases h
  exact r_end
 replace h := itf h (by first | exact c | (have c2 := c; simp only [List.length_map] at c2; exact c2))
 try rw [c]
 obtain ⟨hf24, h⟩ := gd h
 obtain ⟨q14, h27, h⟩ := bnd h
 refine go ?_;intros
 refine w_last (fun t o => ∃ q14_, q14 = .inr q14_ ∧ Pin t (ovr [] t) ∧ PinH o (ovh [] o)) ?_ ?_
 ·refine w_loop2 (fun n t o => ∃ l18 k16  , gl_bl9_1 a1 l18 k16  = some q14 ∧ n = l18.length ∧ (a0).drop k16 = l18 ∧ Pin t (ovr [(0, .ro (List.map eInt a0)), (1, .ro (List.map eInt a1)), (12, .v (.int .i64 (a0.length : Int))), (13, .v (.int .i64 (k16 : Int)))] t) ∧ PinH o (ovh [] o)) _ ⟨_, _, h27, rfl, rfl, pin, pinh⟩ ?_
  rintro n t o ⟨l18, k16, h27, rfl, hd19, pq1, pq2⟩
  refine pinned pq1 pq2 ?_
  cases l18 with
  | nil =>
   have hge21 := drop_ge hd19
   rw [gl_bl9_1] at h27
   refine go ?_;intros
   rw [hge21]
   refine go ?_;intros
   cases h27
   exact k_cn ⟨_, rfl, pin, pinh⟩
  | cons x17 l18 =>
   have hlt20 := drop_lt hd19
   have hx22 := drop_ix hd19
   have hw23 := drop_wr hd19 hf24
   rw [gl_bl9_1] at h27
   refine go ?_;intros
   rw [hlt20]
   refine go ?_;intros
   refine r_iro rfl rfl hx22 rfl ?_
   obtain ⟨x25, h26, h27⟩ := bnd h27
   refine go ?_;intros
   refine r_iro rfl rfl h26 rfl ?_
   refine go ?_;intros
   refine w_cond rfl (fun c => ?_) (fun c => ?_)
   ·replace h27 := itt h27 c
    try rw [c]
    refine go ?_;intros
    cases h27
    replace h : some _ = some _ := h
    cases h
    exact r_end
   replace h27 := itf h27 c
   try rw [c]
   refine go ?_;intros
   rw [hw23]
   exact k_ln2 _ (Nat.lt_succ_self _) ⟨_, _, h27, rfl, drop_next hd19, pin, pinh⟩
 rintro t o ⟨q14, rfl, pq1, pq2⟩
 refine pinnedQ pq1 pq2 ?_
 refine go ?_;intros
 cases h
 exact r_end
theorem d_bd9 {G : Gam} (H_bl9 : Has G c_bl9) (H_ao9 : Has G c_ao9) (a0 : Commit) (a1 : Commit) (r : Bool) (h : gf_bd9 a0 a1 = some r) : Does G if_bd9 ks_bd9 (c_bd9.args (a0, a1)) [] (c_bd9.ans (a0, a1) r) := by
 refine does_pn (L := [(0, .agg [.ro (List.map eInt a0.up), .ro (List.map (eFeat false) a0.sheet), .v (.string a0.note)]), (1, .agg [.ro (List.map eInt a1.up), .ro (List.map (eFeat false) a1.sheet), .v (.string a1.note)])]) (fun bs => pin) fun bs t o => ?_
 show vwp _ ib_bd9 _ _
 unfold ib_bd9
 refine w_ir ?_
 unfold gf_bd9 at h
 obtain ⟨x3, h4, h⟩ := bnd h
 refine go ?_;intros
 refine c_call (c := c_bl9) (a0.up, a1.up) H_bl9 h4 fun ch => ?_
 refine go ?_;intros
 refine s_split rfl (fun c => ?_) (fun c => ?_)
 ·replace h := itt h c
  rw [c]
  obtain ⟨x5, h6, h⟩ := bnd h
  refine go ?_;intros
  refine c_call (c := c_ao9) (a0.sheet, a1.sheet) H_ao9 h6 fun ch => ?_
  refine go ?_;intros
  refine s_split rfl (fun c => ?_) (fun c => ?_)
  ·replace h := itt h c
   rw [c]
   refine go ?_;intros
   cases h
   exact r_end
  replace h := itf h c
  rw [c]
  refine go ?_;intros
  cases h
  exact r_end
 replace h := itf h c
 rw [c]
 refine go ?_;intros
 cases h
 exact r_end
theorem d_bs9 {G : Gam}  (a0 : (List Int)) (a1 : Int) (r : Int) (h : gf_bs9 a0 a1 = some r) : Does G if_bs9 ks_bs9 (c_bs9.args (a0, a1)) [] (c_bs9.ans (a0, a1) r) := by
 refine does_pn (L := [(0, .ro (List.map eInt a0)), (1, .v (.int .i64 a1))]) (fun bs => pin) fun bs t o => ?_
 show vwp _ ib_bs9 _ _
 unfold ib_bs9
 refine w_ir ?_
 unfold gf_bs9 at h
 obtain ⟨hf18, h⟩ := gd h
 obtain ⟨q8, h19, h⟩ := bnd h
 refine go ?_;intros
 refine w_last (fun t o => ∃ q8_, q8 = .inr q8_ ∧ Pin t (ovr [] t) ∧ PinH o (ovh [] o)) ?_ ?_
 ·refine w_loop2 (fun n t o => ∃ l12 k10  , gl_bs9_1 a1 l12 k10  = some q8 ∧ n = l12.length ∧ (a0).drop k10 = l12 ∧ Pin t (ovr [(0, .ro (List.map eInt a0)), (1, .v (.int .i64 a1)), (7, .v (.int .i64 (a0.length : Int))), (8, .v (.int .i64 (k10 : Int)))] t) ∧ PinH o (ovh [] o)) _ ⟨_, _, h19, rfl, rfl, pin, pinh⟩ ?_
  rintro n t o ⟨l12, k10, h19, rfl, hd13, pq1, pq2⟩
  refine pinned pq1 pq2 ?_
  cases l12 with
  | nil =>
   have hge15 := drop_ge hd13
   rw [gl_bs9_1] at h19
   refine go ?_;intros
   rw [hge15]
   refine go ?_;intros
   cases h19
   exact k_cn ⟨_, rfl, pin, pinh⟩
  | cons x11 l12 =>
   have hlt14 := drop_lt hd13
   have hx16 := drop_ix hd13
   have hw17 := drop_wr hd13 hf18
   rw [gl_bs9_1] at h19
   refine go ?_;intros
   rw [hlt14]
   refine go ?_;intros
   refine r_iro rfl rfl hx16 rfl ?_
   refine go ?_;intros
   refine w_cond rfl (fun c => ?_) (fun c => ?_)
   ·replace h19 := itt h19 c
    try rw [c]
    refine go ?_;intros
    cases h19
    replace h : some _ = some _ := h
    cases h
    exact r_end
   replace h19 := itf h19 c
   try rw [c]
   refine go ?_;intros
   rw [hw17]
   exact k_ln2 _ (Nat.lt_succ_self _) ⟨_, _, h19, rfl, drop_next hd13, pin, pinh⟩
 rintro t o ⟨q8, rfl, pq1, pq2⟩
 refine pinnedQ pq1 pq2 ?_
 refine go ?_;intros
 cases h
 exact r_end
theorem d_an9 {G : Gam} (H_aa9 : Has G c_aa9) (a0 : (List Feat)) (r : Bool) (h : gf_an9 a0 = some r) : Does G if_an9 ks_an9 (c_an9.args (a0)) [] (c_an9.ans (a0) r) := by
 refine does_pn (L := [(0, .ro (List.map (eFeat false) a0))]) (fun bs => pin) fun bs t o => ?_
 show vwp _ ib_an9 _ _
 unfold ib_an9
 refine w_ir ?_
 unfold gf_an9 at h
 obtain ⟨hf31, h⟩ := gd h
 obtain ⟨q21, h37, h⟩ := bnd h
 refine go ?_;intros
 refine w_last (fun t o => ∃ q21_, q21 = .inr q21_ ∧ Pin t (ovr [(0, .ro (List.map (eFeat false) a0))] t) ∧ PinH o (ovh [] o)) ?_ ?_
 ·refine w_loop2 (fun n t o => ∃ l25 k23  , gl_an9_1 a0 l25 k23  = some q21 ∧ n = l25.length ∧ (a0).drop k23 = l25 ∧ Pin t (ovr [(0, .ro (List.map (eFeat false) a0)), (5, .ro (List.map (eFeat false) a0)), (6, .v (.int .i64 (a0.length : Int))), (7, .v (.int .i64 (k23 : Int)))] t) ∧ PinH o (ovh [] o)) _ ⟨_, _, h37, rfl, rfl, pin, pinh⟩ ?_
  rintro n t o ⟨l25, k23, h37, rfl, hd26, pq1, pq2⟩
  refine pinned pq1 pq2 ?_
  cases l25 with
  | nil =>
   have hge28 := drop_ge hd26
   rw [gl_an9_1] at h37
   refine go ?_;intros
   rw [hge28]
   refine go ?_;intros
   cases h37
   exact k_cn ⟨_, rfl, pin, pinh⟩
  | cons x24 l25 =>
   have hlt27 := drop_lt hd26
   have hx29 := drop_ix hd26
   have hw30 := drop_wr hd26 hf31
   rw [gl_an9_1] at h37
   refine go ?_;intros
   rw [hlt27]
   refine go ?_;intros
   refine r_iro rfl rfl hx29 rfl ?_
   obtain ⟨x33, h34, h37⟩ := bnd h37
   refine go ?_;intros
   refine c_call (c := c_aa9) (x24) H_aa9 h34 fun ch => ?_
   refine go ?_;intros
   refine s_split rfl (fun c => ?_) (fun c => ?_)
   ·replace h37 := itt h37 c
    rw [c]
    refine go ?_;intros
    cases h37
    replace h : some _ = some _ := h
    cases h
    exact r_end
   replace h37 := itf h37 c
   rw [c]
   refine go ?_;intros
   refine s_split rfl (fun c => ?_) (fun c => ?_)
   ·replace h37 := itt h37 c
    rw [c]
    obtain ⟨x35, h36, h37⟩ := bnd h37
    refine go ?_;intros
    refine r_iro rfl rfl h36 rfl ?_
    refine go ?_;intros
    refine w_cond rfl (fun c => ?_) (fun c => ?_)
    ·replace h37 := itt h37 c
     try rw [c]
     refine go ?_;intros
     cases h37
     replace h : some _ = some _ := h
     cases h
     exact r_end
    replace h37 := itf h37 c
    try rw [c]
    refine go ?_;intros
    rw [hw30]
    exact k_ln2 _ (Nat.lt_succ_self _) ⟨_, _, h37, rfl, drop_next hd26, pin, pinh⟩
   replace h37 := itf h37 c
   rw [c]
   refine go ?_;intros
   rw [hw30]
   exact k_ln2 _ (Nat.lt_succ_self _) ⟨_, _, h37, rfl, drop_next hd26, pin, pinh⟩
 rintro t o ⟨q21, rfl, pq1, pq2⟩
 refine pinnedQ pq1 pq2 ?_
 refine go ?_;intros
 cases h
 exact r_end
theorem d_ag9 {G : Gam} (H_bd9 : Has G c_bd9) (a0 : Commit) (a1 : Commit) (r : Bool) (h : gf_ag9 a0 a1 = some r) : Does G if_ag9 ks_ag9 (c_ag9.args (a0, a1)) [] (c_ag9.ans (a0, a1) r) := by
 refine does_pn (L := [(0, .agg [.ro (List.map eInt a0.up), .ro (List.map (eFeat false) a0.sheet), .v (.string a0.note)]), (1, .rptr [.sl false 1 (List.map eInt a1.up), .sl false 4 (List.map (eFeat false) a1.sheet), .v (.string a1.note)])]) (fun bs => pin) fun bs t o => ?_
 show vwp _ ib_ag9 _ _
 unfold ib_ag9
 refine w_ir ?_
 unfold gf_ag9 at h
 obtain ⟨x2, h3, h⟩ := bnd h
 refine go ?_;intros
 refine c_call (c := c_bd9) (a0, a1) H_bd9 h3 fun ch => ?_
 refine go ?_;intros
 cases h
 exact r_end
theorem d_bp9 {G : Gam} (H_ag9 : Has G c_ag9) (a0 : (List Commit)) (a1 : Commit) (r : Int) (h : gf_bp9 a0 a1 = some r) : Does G if_bo9 ks_bo9 (c_bp9.args (a0, a1)) [] (c_bp9.ans (a0, a1) r) := by
 refine does_pn (L := [(0, .ro (List.map (eCommit false) a0)), (1, .fn 83 [.rptr [.sl false 1 (List.map eInt a1.up), .sl false 4 (List.map (eFeat false) a1.sheet), .v (.string a1.note)]])]) (fun bs => pin) fun bs t o => ?_
 show vwp _ ib_bo9 _ _
 unfold ib_bo9
 refine w_ir ?_
 unfold gf_bp9 at h
 obtain ⟨hf24, h⟩ := gd h
 obtain ⟨q14, h27, h⟩ := bnd h
 refine go ?_;intros
 refine w_last (fun t o => ∃ q14_, q14 = .inr q14_ ∧ Pin t (ovr [] t) ∧ PinH o (ovh [] o)) ?_ ?_
 ·refine w_loop2 (fun n t o => ∃ l18 k16  , gl_bp9_1 a1 l18 k16  = some q14 ∧ n = l18.length ∧ (a0).drop k16 = l18 ∧ Pin t (ovr [(0, .ro (List.map (eCommit false) a0)), (1, .fn 83 [.rptr [.sl false 1 (List.map eInt a1.up), .sl false 4 (List.map (eFeat false) a1.sheet), .v (.string a1.note)]]), (7, .v (.int .i64 (a0.length : Int))), (8, .v (.int .i64 (k16 : Int)))] t) ∧ PinH o (ovh [] o)) _ ⟨_, _, h27, rfl, rfl, pin, pinh⟩ ?_
  rintro n t o ⟨l18, k16, h27, rfl, hd19, pq1, pq2⟩
  refine pinned pq1 pq2 ?_
  cases l18 with
  | nil =>
   have hge21 := drop_ge hd19
   rw [gl_bp9_1] at h27
   refine go ?_;intros
   rw [hge21]
   refine go ?_;intros
   cases h27
   exact k_cn ⟨_, rfl, pin, pinh⟩
  | cons x17 l18 =>
   have hlt20 := drop_lt hd19
   have hx22 := drop_ix hd19
   have hw23 := drop_wr hd19 hf24
   rw [gl_bp9_1] at h27
   refine go ?_;intros
   rw [hlt20]
   refine go ?_;intros
   refine r_iro rfl rfl hx22 rfl ?_
   obtain ⟨x25, h26, h27⟩ := bnd h27
   refine go ?_;intros
   refine c_calld (c := c_ag9) (x17, a1) H_ag9 h26 fun ch => ?_
   refine go ?_;intros
   refine w_cond rfl (fun c => ?_) (fun c => ?_)
   ·replace h27 := itt h27 c
    try rw [c]
    refine go ?_;intros
    cases h27
    replace h : some _ = some _ := h
    cases h
    exact r_end
   replace h27 := itf h27 c
   try rw [c]
   refine go ?_;intros
   rw [hw23]
   exact k_ln2 _ (Nat.lt_succ_self _) ⟨_, _, h27, rfl, drop_next hd19, pin, pinh⟩
 rintro t o ⟨q14, rfl, pq1, pq2⟩
 refine pinnedQ pq1 pq2 ?_
 refine go ?_;intros
 cases h
 exact r_end
theorem d_af9 {G : Gam} (H_bp9 : Has G c_bp9) (a0 : Repo) (a1 : Commit) (r : Int) (h : gf_af9 a0 a1 = some r) : Does G if_af9 ks_af9 (c_af9.args (a0, a1)) [] (c_af9.ans (a0, a1) r) := by
 refine does_pn (L := [(0, .agg [.ro (List.map (eCommit false) a0.commits), .ro (List.map eHead a0.heads)]), (1, .agg [.ro (List.map eInt a1.up), .ro (List.map (eFeat false) a1.sheet), .v (.string a1.note)])]) (fun bs => pin) fun bs t o => ?_
 show vwp _ ib_af9 _ _
 unfold ib_af9
 refine w_ir ?_
 unfold gf_af9 at h
 obtain ⟨x3, h4, h⟩ := bnd h
 refine go ?_;intros
 refine c_call (c := c_bp9) (a0.commits, a1) H_bp9 h4 fun ch => ?_
 refine go ?_;intros
 cases h
 exact r_end
theorem d_bg9 {G : Gam} (H_bs9 : Has G c_bs9) (a0 : (List Int)) (a1 : Int) (r : Bool) (h : gf_bg9 a0 a1 = some r) : Does G if_bg9 ks_bg9 (c_bg9.args (a0, a1)) [] (c_bg9.ans (a0, a1) r) := by
 refine does_pn (L := [(0, .ro (List.map eInt a0)), (1, .v (.int .i64 a1))]) (fun bs => pin) fun bs t o => ?_
 show vwp _ ib_bg9 _ _
 unfold ib_bg9
 refine w_ir ?_
 unfold gf_bg9 at h
 obtain ⟨x1, h2, h⟩ := bnd h
 refine go ?_;intros
 refine c_call (c := c_bs9) (a0, a1) H_bs9 h2 fun ch => ?_
 refine go ?_;intros
 cases h
 exact r_end
theorem d_ai9 {G : Gam}  (a0 : Head) (a1 : Str) (r : Bool) (h : gf_ai9 a0 a1 = some r) : Does G if_ai9 ks_ai9 (c_ai9.args (a0, a1)) [] (c_ai9.ans (a0, a1) r) := by
 refine does_pn (L := [(0, .agg [.v (.string a0.name), .v (.int .i64 a0.at_)]), (1, .rptr [.v (.string a1)])]) (fun bs => pin) fun bs t o => ?_
 show vwp _ ib_ai9 _ _
 unfold ib_ai9
 refine w_ir ?_
 unfold gf_ai9 at h
 refine go ?_;intros
 cases h
 exact r_end
theorem d_br9 {G : Gam} (H_ai9 : Has G c_ai9) (a0 : (List Head)) (a1 : Str) (r : Int) (h : gf_br9 a0 a1 = some r) : Does G if_bq9 ks_bq9 (c_br9.args (a0, a1)) [] (c_br9.ans (a0, a1) r) := by
 refine does_pn (L := [(0, .ro (List.map eHead a0)), (1, .fn 77 [.rptr [.v (.string a1)]])]) (fun bs => pin) fun bs t o => ?_
 show vwp _ ib_bq9 _ _
 unfold ib_bq9
 refine w_ir ?_
 unfold gf_br9 at h
 obtain ⟨hf24, h⟩ := gd h
 obtain ⟨q14, h27, h⟩ := bnd h
 refine go ?_;intros
 refine w_last (fun t o => ∃ q14_, q14 = .inr q14_ ∧ Pin t (ovr [] t) ∧ PinH o (ovh [] o)) ?_ ?_
 ·refine w_loop2 (fun n t o => ∃ l18 k16  , gl_br9_1 a1 l18 k16  = some q14 ∧ n = l18.length ∧ (a0).drop k16 = l18 ∧ Pin t (ovr [(0, .ro (List.map eHead a0)), (1, .fn 77 [.rptr [.v (.string a1)]]), (7, .v (.int .i64 (a0.length : Int))), (8, .v (.int .i64 (k16 : Int)))] t) ∧ PinH o (ovh [] o)) _ ⟨_, _, h27, rfl, rfl, pin, pinh⟩ ?_
  rintro n t o ⟨l18, k16, h27, rfl, hd19, pq1, pq2⟩
  refine pinned pq1 pq2 ?_
  cases l18 with
  | nil =>
   have hge21 := drop_ge hd19
   rw [gl_br9_1] at h27
   refine go ?_;intros
   rw [hge21]
   refine go ?_;intros
   cases h27
   exact k_cn ⟨_, rfl, pin, pinh⟩
  | cons x17 l18 =>
   have hlt20 := drop_lt hd19
   have hx22 := drop_ix hd19
   have hw23 := drop_wr hd19 hf24
   rw [gl_br9_1] at h27
   refine go ?_;intros
   rw [hlt20]
   refine go ?_;intros
   refine r_iro rfl rfl hx22 rfl ?_
   obtain ⟨x25, h26, h27⟩ := bnd h27
   refine go ?_;intros
   refine c_calld (c := c_ai9) (x17, a1) H_ai9 h26 fun ch => ?_
   refine go ?_;intros
   refine w_cond rfl (fun c => ?_) (fun c => ?_)
   ·replace h27 := itt h27 c
    try rw [c]
    refine go ?_;intros
    cases h27
    replace h : some _ = some _ := h
    cases h
    exact r_end
   replace h27 := itf h27 c
   try rw [c]
   refine go ?_;intros
   rw [hw23]
   exact k_ln2 _ (Nat.lt_succ_self _) ⟨_, _, h27, rfl, drop_next hd19, pin, pinh⟩
 rintro t o ⟨q14, rfl, pq1, pq2⟩
 refine pinnedQ pq1 pq2 ?_
 refine go ?_;intros
 cases h
 exact r_end
theorem d_ah9 {G : Gam} (H_br9 : Has G c_br9) (a0 : Repo) (a1 : Str) (r : Int) (h : gf_ah9 a0 a1 = some r) : Does G if_ah9 ks_ah9 (c_ah9.args (a0, a1)) [] (c_ah9.ans (a0, a1) r) := by
 refine does_pn (L := [(0, .agg [.ro (List.map (eCommit false) a0.commits), .ro (List.map eHead a0.heads)]), (1, .v (.string a1))]) (fun bs => pin) fun bs t o => ?_
 show vwp _ ib_ah9 _ _
 unfold ib_ah9
 refine w_ir ?_
 unfold gf_ah9 at h
 obtain ⟨x3, h4, h⟩ := bnd h
 refine go ?_;intros
 refine c_call (c := c_br9) (a0.heads, a1) H_br9 h4 fun ch => ?_
 refine go ?_;intros
 cases h
 exact r_end
theorem d_ak9 {G : Gam} (H_be9 : Has G c_be9) (a0 : Repo) (a1 : Int) (r : Bool) (h : gf_ak9 a0 a1 = some r) : Does G if_ak9 ks_ak9 (c_ak9.args (a0, a1)) [] (c_ak9.ans (a0, a1) r) := by
 refine does_pn (L := [(0, .agg [.ro (List.map (eCommit false) a0.commits), .ro (List.map eHead a0.heads)]), (1, .v (.int .i64 a1))]) (fun bs => pin) fun bs t o => ?_
 show vwp _ ib_ak9 _ _
 unfold ib_ak9
 refine w_ir ?_
 unfold gf_ak9 at h
 obtain ⟨x2, h3, h⟩ := bnd h
 refine go ?_;intros
 refine c_call (c := c_be9) (a1, 0, (IntKind.i64.wrap ((a0.commits.length : Int) - 1))) H_be9 h3 fun ch => ?_
 refine go ?_;intros
 cases h
 exact r_end
theorem d_az9 {G : Gam}  (a0 : Shape) (r : Shape) (h : gf_az9 a0 = some r) : Does G if_az9 ks_az9 (c_az9.args (a0)) [] (c_az9.ans (a0) r) := by
 refine does_pn (L := [(0, .agg [.v (.int .i64 a0.kind), .ro (List.map ePt a0.pts)])]) (fun bs => pin) fun bs t o => ?_
 show vwp _ ib_az9 _ _
 unfold ib_az9
 refine w_ir ?_
 unfold gf_az9 at h
 obtain ⟨h6, h⟩ := gd h
 refine go ?_;intros
 refine r_app (f := ePt) (xs := ([] : (List Pt))) (ys := a0.pts) rfl (src_ro (fun _ => rfl) (fun _ => rfl)) rfl rfl (by first | rfl | simp) h6 fun b4 c5 => ?_
 refine go ?_;intros
 cases h
 exact r_end
theorem d_ax9 {G : Gam} (H_az9 : Has G c_az9) (a0 : Feat) (r : Feat) (h : gf_ax9 a0 = some r) : Does G if_ax9 ks_ax9 (c_ax9.args (a0)) [] (c_ax9.ans (a0) r) := by
 refine does_pn (L := [(0, .agg [.v (.string a0.id), .v (.int .i64 a0.shape.kind), .ro (List.map ePt a0.shape.pts), .ro (List.map eTag a0.tags)])]) (fun bs => pin) fun bs t o => ?_
 show vwp _ ib_ax9 _ _
 unfold ib_ax9
 refine w_ir ?_
 unfold gf_ax9 at h
 obtain ⟨x3, h4, h⟩ := bnd h
 refine go ?_;intros
 refine c_call (c := c_az9) (a0.shape) H_az9 h4 fun ch => ?_
 obtain ⟨h10, h⟩ := gd h
 refine go ?_;intros
 refine r_app (f := eTag) (xs := ([] : (List Tag))) (ys := a0.tags) rfl (src_ro (fun _ => rfl) (fun _ => rfl)) rfl rfl (by first | rfl | simp) h10 fun b8 c9 => ?_
 refine go ?_;intros
 cases h
 exact r_end
theorem d_ba9 {G : Gam} (H_ax9 : Has G c_ax9) (a0 : (List Feat)) (r : (List Feat)) (h : gf_ba9 a0 = some r) : Does G if_ba9 ks_ba9 (c_ba9.args (a0)) [] (c_ba9.ans (a0) r) := by
 refine does_pn (L := [(0, .ro (List.map (eFeat false) a0))]) (fun bs => pin) fun bs t o => ?_
 show vwp _ ib_ba9 _ _
 unfold ib_ba9
 refine w_ir ?_
 unfold gf_ba9 at h
 obtain ⟨hf60, h⟩ := gd h
 obtain ⟨q47, h75, h⟩ := bnd h
 refine go ?_;intros
 refine w_last (fun t o => ∃ b73 c74, Pin t (ovr [(3, .ref 48 b73 c74 0 q47.length 100)] t) ∧ PinH o (ovh [(48, ent b73 c74 100 (List.map (eFeat true) q47))] o)) ?_ ?_
 ·refine w_loop2 (fun n t o => ∃ l54 k52 v49 b50 c51, gl_ba9_1 l54 k52 v49 = some q47 ∧ n = l54.length ∧ (a0).drop k52 = l54 ∧ Pin t (ovr [(3, .ref 48 b50 c51 0 v49.length 100), (7, .ro (List.map (eFeat false) a0)), (8, .v (.int .i64 (a0.length : Int))), (9, .v (.int .i64 (k52 : Int)))] t) ∧ PinH o (ovh [(48, ent b50 c51 100 (List.map (eFeat true) v49))] o)) _ ⟨_, _, _, _, _, h75, rfl, rfl, pin, pinh⟩ ?_
  rintro n t o ⟨l54, k52, v49, b50, c51, h75, rfl, hd55, pq1, pq2⟩
  refine pinned pq1 pq2 ?_
  cases l54 with
  | nil =>
   have hge57 := drop_ge hd55
   rw [gl_ba9_1] at h75
   refine go ?_;intros
   rw [hge57]
   refine go ?_;intros
   cases h75
   exact k_cn ⟨_, _, pin, pinh⟩
  | cons x53 l54 =>
   have hlt56 := drop_lt hd55
   have hx58 := drop_ix hd55
   have hw59 := drop_wr hd55 hf60
   rw [gl_ba9_1] at h75
   refine go ?_;intros
   rw [hlt56]
   refine go ?_;intros
   refine r_iro rfl rfl hx58 rfl ?_
   obtain ⟨x62, h63, h75⟩ := bnd h75
   refine go ?_;intros
   refine c_call (c := c_ax9) (x53) H_ax9 h63 fun ch => ?_
   refine go ?_;intros
   try simp only [take_map_len, take_ent]
   obtain ⟨h71, h75⟩ := gd h75
   refine go ?_;intros
   refine r_app (f := (eFeat true)) (xs := v49) (ys := ([x62] : (List Feat))) rfl (src_mv rfl rfl (by first | rfl | simp)) rfl rfl (by first | rfl | simp) h71 fun b69 c70 => ?_
   refine go ?_;intros
   rw [hw59]
   exact k_ln2 _ (Nat.lt_succ_self _) ⟨_, _, _, _, _, h75, rfl, drop_next hd55, pin, pinh⟩
 rintro t o ⟨b73, c74, pq1, pq2⟩
 refine pinnedQ pq1 pq2 ?_
 refine go ?_;intros
 cases h
 exact r_end
end Go.Proofs.AM
