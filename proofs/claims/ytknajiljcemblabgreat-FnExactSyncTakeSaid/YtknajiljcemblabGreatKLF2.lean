/- Lemmas of the proof (KLF2), on an abstract machine. Conditions: none. -/
import Derived.Test.YtknajiljcemblabGreatKLD
set_option linter.unusedVariables false
set_option linter.unusedSimpArgs false
set_option maxRecDepth 100000
set_option maxHeartbeats 4000000
namespace Go.Proofs.AM
attribute [local irreducible] vwp vstps vstpLs vstp vdo vret kseq kblk kloop kend kcut kloop2 frzV renV shutK pfzV trnV unrV
theorem d_dr9 {G : Gam} (H_eb9 : Has G c_eb9) (H_dw9 : Has G c_dw9) (H_el9 : Has G c_el9) (a0 : Feat) (r : Bool) (h : gf_dr9 a0 = some r) : Does G if_dr9 ks_dr9 (c_dr9.args (a0)) [] (c_dr9.ans (a0) r) := by
 refine does_pn (L := [(0, .agg [.v (.string a0.id), .v (.int .i64 a0.shape.kind), .ro (List.map ePt a0.shape.pts), .ro (List.map eTag a0.tags)])]) (fun bs => pin) fun bs t o => ?_
 show vwp _ ib_dr9 _ _
 unfold ib_dr9
 refine w_ir ?_
 unfold gf_dr9 at h
 obtain ⟨x2, h3, h⟩ := bnd h
 refine go ?_;intros
 refine c_call (c := c_eb9) (a0.id) H_eb9 h3 fun ch => ?_
 refine go ?_;intros
 refine s_split rfl (fun c => ?_) (fun c => ?_)
 ·replace h := itt h c
  rw [c]
  obtain ⟨x4, h5, h⟩ := bnd h
  refine go ?_;intros
  refine c_call (c := c_dw9) (a0.shape) H_dw9 h5 fun ch => ?_
  refine go ?_;intros
  refine s_split rfl (fun c => ?_) (fun c => ?_)
  ·replace h := itt h c
   rw [c]
   obtain ⟨x6, h7, h⟩ := bnd h
   refine go ?_;intros
   refine c_call (c := c_el9) (a0.tags) H_el9 h7 fun ch => ?_
   refine go ?_;intros
   cases h
   exact r_end
  replace h := itf h c
  rw [c]
  refine go ?_;intros
  cases h
  exact r_end
 replace h := itf h c
 rw [c]
 refine go ?_;intros
 cases h
 exact r_end
theorem d_ei9 {G : Gam}  (a0 : (List Pt)) (a1 : (List Pt)) (r : Bool) (h : gf_ei9 a0 a1 = some r) : Does G if_ei9 ks_ei9 (c_ei9.args (a0, a1)) [] (c_ei9.ans (a0, a1) r) := by
 refine does_pn (L := [(0, .ro (List.map ePt a0)), (1, .ro (List.map ePt a1))]) (fun bs => pin) fun bs t o => ?_
 show vwp _ ib_ei9 _ _
 unfold ib_ei9
 refine w_ir ?_
 unfold gf_ei9 at h
 refine go ?_;intros
 refine w_cond rfl (fun c => ?_) (fun c => ?_)
 ·replace h := itt h (by first | exact c | (have c2 := c; simp only [List.length_map] at c2; exact c2))
  try rw [c]
  refine go ?_;intros
  cases h
  exact r_end
 replace h := itf h (by first | exact c | (have c2 := c; simp only [List.length_map] at c2; exact c2))
 try rw [c]
 obtain ⟨hf24, h⟩ := gd h
 obtain ⟨q14, h27, h⟩ := bnd h
 refine go ?_;intros
 refine w_last (fun t o => ∃ q14_, q14 = .inr q14_ ∧ Pin t (ovr [] t) ∧ PinH o (ovh [] o)) ?_ ?_
 ·refine w_loop2 (fun n t o => ∃ l18 k16  , gl_ei9_1 a1 l18 k16  = some q14 ∧ n = l18.length ∧ (a0).drop k16 = l18 ∧ Pin t (ovr [(0, .ro (List.map ePt a0)), (1, .ro (List.map ePt a1)), (5, .v (.int .i64 (k16 : Int)))] t) ∧ PinH o (ovh [] o)) _ ⟨_, _, h27, rfl, rfl, pin, pinh⟩ ?_
  rintro n t o ⟨l18, k16, h27, rfl, hd19, pq1, pq2⟩
  refine pinned pq1 pq2 ?_
  cases l18 with
  | nil =>
   have hge21 := drop_ge hd19
   rw [gl_ei9_1] at h27
   refine go ?_;intros
   rw [hge21]
   refine go ?_;intros
   cases h27
   exact k_cn ⟨_, rfl, pin, pinh⟩
  | cons x17 l18 =>
   have hlt20 := drop_lt hd19
   have hx22 := drop_ix hd19
   have hw23 := drop_wr hd19 hf24
   rw [gl_ei9_1] at h27
   refine go ?_;intros
   rw [hlt20]
   refine go ?_;intros
   refine r_iro rfl rfl hx22 rfl ?_
   obtain ⟨x25, h26, h27⟩ := bnd h27
   refine go ?_;intros
   refine r_iro rfl rfl h26 rfl ?_
   refine go ?_;intros
   refine w_cond rfl (fun c => ?_) (fun c => ?_)
   ·replace h27 := itt h27 c
    try rw [c]
    refine go ?_;intros
    cases h27
    replace h : some _ = some _ := h
    cases h
    exact r_end
   replace h27 := itf h27 c
   try rw [c]
   refine go ?_;intros
   rw [hw23]
   exact k_ln2 _ (Nat.lt_succ_self _) ⟨_, _, h27, rfl, drop_next hd19, pin, pinh⟩
 rintro t o ⟨q14, rfl, pq1, pq2⟩
 refine pinnedQ pq1 pq2 ?_
 refine go ?_;intros
 cases h
 exact r_end
theorem d_dx9 {G : Gam} (H_ei9 : Has G c_ei9) (a0 : Shape) (a1 : Shape) (r : Bool) (h : gf_dx9 a0 a1 = some r) : Does G if_dx9 ks_dx9 (c_dx9.args (a0, a1)) [] (c_dx9.ans (a0, a1) r) := by
 refine does_pn (L := [(0, .agg [.v (.int .i64 a0.kind), .ro (List.map ePt a0.pts)]), (1, .agg [.v (.int .i64 a1.kind), .ro (List.map ePt a1.pts)])]) (fun bs => pin) fun bs t o => ?_
 show vwp _ ib_dx9 _ _
 unfold ib_dx9
 refine w_ir ?_
 unfold gf_dx9 at h
 refine go ?_;intros
 refine s_split rfl (fun c => ?_) (fun c => ?_)
 ·replace h := itt h c
  rw [c]
  obtain ⟨x3, h4, h⟩ := bnd h
  refine go ?_;intros
  refine c_call (c := c_ei9) (a0.pts, a1.pts) H_ei9 h4 fun ch => ?_
  refine go ?_;intros
  cases h
  exact r_end
 replace h := itf h c
 rw [c]
 refine go ?_;intros
 cases h
 exact r_end
theorem d_ek9 {G : Gam}  (a0 : (List Tag)) (a1 : (List Tag)) (r : Bool) (h : gf_ek9 a0 a1 = some r) : Does G if_ek9 ks_ek9 (c_ek9.args (a0, a1)) [] (c_ek9.ans (a0, a1) r) := by
 refine does_pn (L := [(0, .ro (List.map eTag a0)), (1, .ro (List.map eTag a1))]) (fun bs => pin) fun bs t o => ?_
 show vwp _ ib_ek9 _ _
 unfold ib_ek9
 refine w_ir ?_
 unfold gf_ek9 at h
 refine go ?_;intros
 refine w_cond rfl (fun c => ?_) (fun c => ?_)
 ·replace h := itt h (by first | exact c | (have c2 := c; simp only [List.length_map] at c2; exact c2))
  try rw [c]
  refine go ?_;intros
  cases h
  exact r_end
 replace h := itf h (by first | exact c | (have c2 := c; simp only [List.length_map] at c2; exact c2))
 try rw [c]
 obtain ⟨hf24, h⟩ := gd h
 obtain ⟨q14, h27, h⟩ := bnd h
 refine go ?_;intros
 refine w_last (fun t o => ∃ q14_, q14 = .inr q14_ ∧ Pin t (ovr [] t) ∧ PinH o (ovh [] o)) ?_ ?_
 ·refine w_loop2 (fun n t o => ∃ l18 k16  , gl_ek9_1 a1 l18 k16  = some q14 ∧ n = l18.length ∧ (a0).drop k16 = l18 ∧ Pin t (ovr [(0, .ro (List.map eTag a0)), (1, .ro (List.map eTag a1)), (5, .v (.int .i64 (k16 : Int)))] t) ∧ PinH o (ovh [] o)) _ ⟨_, _, h27, rfl, rfl, pin, pinh⟩ ?_
  rintro n t o ⟨l18, k16, h27, rfl, hd19, pq1, pq2⟩
  refine pinned pq1 pq2 ?_
  cases l18 with
  | nil =>
   have hge21 := drop_ge hd19
   rw [gl_ek9_1] at h27
   refine go ?_;intros
   rw [hge21]
   refine go ?_;intros
   cases h27
   exact k_cn ⟨_, rfl, pin, pinh⟩
  | cons x17 l18 =>
   have hlt20 := drop_lt hd19
   have hx22 := drop_ix hd19
   have hw23 := drop_wr hd19 hf24
   rw [gl_ek9_1] at h27
   refine go ?_;intros
   rw [hlt20]
   refine go ?_;intros
   refine r_iro rfl rfl hx22 rfl ?_
   obtain ⟨x25, h26, h27⟩ := bnd h27
   refine go ?_;intros
   refine r_iro rfl rfl h26 rfl ?_
   refine go ?_;intros
   refine w_cond rfl (fun c => ?_) (fun c => ?_)
   ·replace h27 := itt h27 c
    try rw [c]
    refine go ?_;intros
    cases h27
    replace h : some _ = some _ := h
    cases h
    exact r_end
   replace h27 := itf h27 c
   try rw [c]
   refine go ?_;intros
   rw [hw23]
   exact k_ln2 _ (Nat.lt_succ_self _) ⟨_, _, h27, rfl, drop_next hd19, pin, pinh⟩
 rintro t o ⟨q14, rfl, pq1, pq2⟩
 refine pinnedQ pq1 pq2 ?_
 refine go ?_;intros
 cases h
 exact r_end
theorem d_ds9 {G : Gam} (H_dx9 : Has G c_dx9) (H_ek9 : Has G c_ek9) (a0 : Feat) (a1 : Feat) (r : Bool) (h : gf_ds9 a0 a1 = some r) : Does G if_ds9 ks_ds9 (c_ds9.args (a0, a1)) [] (c_ds9.ans (a0, a1) r) := by
 refine does_pn (L := [(0, .agg [.v (.string a0.id), .v (.int .i64 a0.shape.kind), .ro (List.map ePt a0.shape.pts), .ro (List.map eTag a0.tags)]), (1, .agg [.v (.string a1.id), .v (.int .i64 a1.shape.kind), .ro (List.map ePt a1.shape.pts), .ro (List.map eTag a1.tags)])]) (fun bs => pin) fun bs t o => ?_
 show vwp _ ib_ds9 _ _
 unfold ib_ds9
 refine w_ir ?_
 unfold gf_ds9 at h
 refine go ?_;intros
 refine s_split rfl (fun c => ?_) (fun c => ?_)
 ·replace h := itt h c
  rw [c]
  obtain ⟨x3, h4, h⟩ := bnd h
  refine go ?_;intros
  refine c_call (c := c_dx9) (a0.shape, a1.shape) H_dx9 h4 fun ch => ?_
  refine go ?_;intros
  refine s_split rfl (fun c => ?_) (fun c => ?_)
  ·replace h := itt h c
   rw [c]
   obtain ⟨x5, h6, h⟩ := bnd h
   refine go ?_;intros
   refine c_call (c := c_ek9) (a0.tags, a1.tags) H_ek9 h6 fun ch => ?_
   refine go ?_;intros
   cases h
   exact r_end
  replace h := itf h c
  rw [c]
  refine go ?_;intros
  cases h
  exact r_end
 replace h := itf h c
 rw [c]
 refine go ?_;intros
 cases h
 exact r_end
theorem d_er9 {G : Gam}  (a0 : (List Int)) (a1 : (List Int)) (r : Bool) (h : gf_er9 a0 a1 = some r) : Does G if_er9 ks_er9 (c_er9.args (a0, a1)) [] (c_er9.ans (a0, a1) r) := by
 refine does_pn (L := [(0, .ro (List.map eInt a0)), (1, .ro (List.map eInt a1))]) (fun bs => pin) fun bs t o => ?_
 show vwp _ ib_er9 _ _
 unfold ib_er9
 refine w_ir ?_
 unfold gf_er9 at h
 refine go ?_;intros
 refine w_cond rfl (fun c => ?_) (fun c => ?_)
 ·replace h := itt h (by first | exact c | (have c2 := c; simp only [List.length_map] at c2; exact c2))
  try rw [c]
  refine go ?_;intros
  cases h
  exact r_end
 replace h := itf h (by first | exact c | (have c2 := c; simp only [List.length_map] at c2; exact c2))
 try rw [c]
 obtain ⟨hf24, h⟩ := gd h
 obtain ⟨q14, h27, h⟩ := bnd h
 refine go ?_;intros
 refine w_last (fun t o => ∃ q14_, q14 = .inr q14_ ∧ Pin t (ovr [] t) ∧ PinH o (ovh [] o)) ?_ ?_
 ·refine w_loop2 (fun n t o => ∃ l18 k16  , gl_er9_1 a1 l18 k16  = some q14 ∧ n = l18.length ∧ (a0).drop k16 = l18 ∧ Pin t (ovr [(0, .ro (List.map eInt a0)), (1, .ro (List.map eInt a1)), (5, .v (.int .i64 (k16 : Int)))] t) ∧ PinH o (ovh [] o)) _ ⟨_, _, h27, rfl, rfl, pin, pinh⟩ ?_
  rintro n t o ⟨l18, k16, h27, rfl, hd19, pq1, pq2⟩
  refine pinned pq1 pq2 ?_
  cases l18 with
  | nil =>
   have hge21 := drop_ge hd19
   rw [gl_er9_1] at h27
   refine go ?_;intros
   rw [hge21]
   refine go ?_;intros
   cases h27
   exact k_cn ⟨_, rfl, pin, pinh⟩
  | cons x17 l18 =>
   have hlt20 := drop_lt hd19
   have hx22 := drop_ix hd19
   have hw23 := drop_wr hd19 hf24
   rw [gl_er9_1] at h27
   refine go ?_;intros
   rw [hlt20]
   refine go ?_;intros
   refine r_iro rfl rfl hx22 rfl ?_
   obtain ⟨x25, h26, h27⟩ := bnd h27
   refine go ?_;intros
   refine r_iro rfl rfl h26 rfl ?_
   refine go ?_;intros
   refine w_cond rfl (fun c => ?_) (fun c => ?_)
   ·replace h27 := itt h27 c
    try rw [c]
    refine go ?_;intros
    cases h27
    replace h : some _ = some _ := h
    cases h
    exact r_end
   replace h27 := itf h27 c
   try rw [c]
   refine go ?_;intros
   rw [hw23]
   exact k_ln2 _ (Nat.lt_succ_self _) ⟨_, _, h27, rfl, drop_next hd19, pin, pinh⟩
 rintro t o ⟨q14, rfl, pq1, pq2⟩
 refine pinnedQ pq1 pq2 ?_
 refine go ?_;intros
 cases h
 exact r_end
theorem d_dz9 {G : Gam} (H_ds9 : Has G c_ds9) (a0 : (List Feat)) (a1 : (List Feat)) (r : Bool) (h : gf_dz9 a0 a1 = some r) : Does G if_dz9 ks_dz9 (c_dz9.args (a0, a1)) [] (c_dz9.ans (a0, a1) r) := by
 refine does_pn (L := [(0, .ro (List.map (eFeat false) a0)), (1, .ro (List.map (eFeat false) a1))]) (fun bs => pin) fun bs t o => ?_
 show vwp _ ib_dz9 _ _
 unfold ib_dz9
 refine w_ir ?_
 unfold gf_dz9 at h
 refine go ?_;intros
 refine w_cond rfl (fun c => ?_) (fun c => ?_)
 ·replace h := itt h (by first | exact c | (have c2 := c; simp only [List.length_map] at c2; exact c2))
  try rw [c]
  refine go ?_;intros
  cases h
  exact r_end
 replace h := itf h (by first | exact c | (have c2 := c; simp only [List.length_map] at c2; exact c2))
 try rw [c]
 obtain ⟨hf30, h⟩ := gd h
 obtain ⟨q20, h35, h⟩ := bnd h
 refine go ?_;intros
 refine w_last (fun t o => ∃ q20_, q20 = .inr q20_ ∧ Pin t (ovr [] t) ∧ PinH o (ovh [] o)) ?_ ?_
 ·refine w_loop2 (fun n t o => ∃ l24 k22  , gl_dz9_1 a1 l24 k22  = some q20 ∧ n = l24.length ∧ (a0).drop k22 = l24 ∧ Pin t (ovr [(0, .ro (List.map (eFeat false) a0)), (1, .ro (List.map (eFeat false) a1)), (5, .v (.int .i64 (k22 : Int)))] t) ∧ PinH o (ovh [] o)) _ ⟨_, _, h35, rfl, rfl, pin, pinh⟩ ?_
  rintro n t o ⟨l24, k22, h35, rfl, hd25, pq1, pq2⟩
  refine pinned pq1 pq2 ?_
  cases l24 with
  | nil =>
   have hge27 := drop_ge hd25
   rw [gl_dz9_1] at h35
   refine go ?_;intros
   rw [hge27]
   refine go ?_;intros
   cases h35
   exact k_cn ⟨_, rfl, pin, pinh⟩
  | cons x23 l24 =>
   have hlt26 := drop_lt hd25
   have hx28 := drop_ix hd25
   have hw29 := drop_wr hd25 hf30
   rw [gl_dz9_1] at h35
   refine go ?_;intros
   rw [hlt26]
   refine go ?_;intros
   refine r_iro rfl rfl hx28 rfl ?_
   obtain ⟨x31, h32, h35⟩ := bnd h35
   refine go ?_;intros
   refine r_iro rfl rfl h32 rfl ?_
   obtain ⟨x33, h34, h35⟩ := bnd h35
   refine go ?_;intros
   refine c_call (c := c_ds9) (x23, x31) H_ds9 h34 fun ch => ?_
   refine go ?_;intros
   refine w_cond rfl (fun c => ?_) (fun c => ?_)
   ·replace h35 := itt h35 c
    try rw [c]
    refine go ?_;intros
    cases h35
    replace h : some _ = some _ := h
    cases h
    exact r_end
   replace h35 := itf h35 c
   try rw [c]
   refine go ?_;intros
   rw [hw29]
   exact k_ln2 _ (Nat.lt_succ_self _) ⟨_, _, h35, rfl, drop_next hd25, pin, pinh⟩
 rintro t o ⟨q20, rfl, pq1, pq2⟩
 refine pinnedQ pq1 pq2 ?_
 refine go ?_;intros
 cases h
 exact r_end
theorem d_eu9 {G : Gam} (H_er9 : Has G c_er9) (H_dz9 : Has G c_dz9) (a0 : Commit) (a1 : Commit) (r : Bool) (h : gf_eu9 a0 a1 = some r) : Does G if_eu9 ks_eu9 (c_eu9.args (a0, a1)) [] (c_eu9.ans (a0, a1) r) := by
 refine does_pn (L := [(0, .agg [.ro (List.map eInt a0.up), .ro (List.map (eFeat false) a0.sheet), .v (.string a0.note)]), (1, .agg [.ro (List.map eInt a1.up), .ro (List.map (eFeat false) a1.sheet), .v (.string a1.note)])]) (fun bs => pin) fun bs t o => ?_
 show vwp _ ib_eu9 _ _
 unfold ib_eu9
 refine w_ir ?_
 unfold gf_eu9 at h
 obtain ⟨x3, h4, h⟩ := bnd h
 refine go ?_;intros
 refine c_call (c := c_er9) (a0.up, a1.up) H_er9 h4 fun ch => ?_
 refine go ?_;intros
 refine s_split rfl (fun c => ?_) (fun c => ?_)
 ·replace h := itt h c
  rw [c]
  obtain ⟨x5, h6, h⟩ := bnd h
  refine go ?_;intros
  refine c_call (c := c_dz9) (a0.sheet, a1.sheet) H_dz9 h6 fun ch => ?_
  refine go ?_;intros
  refine s_split rfl (fun c => ?_) (fun c => ?_)
  ·replace h := itt h c
   rw [c]
   refine go ?_;intros
   cases h
   exact r_end
  replace h := itf h c
  rw [c]
  refine go ?_;intros
  cases h
  exact r_end
 replace h := itf h c
 rw [c]
 refine go ?_;intros
 cases h
 exact r_end
theorem d_ev9 {G : Gam}  (a0 : (List Int)) (a1 : Int) (r : Bool) (h : gf_ev9 a0 a1 = some r) : Does G if_ev9 ks_ev9 (c_ev9.args (a0, a1)) [] (c_ev9.ans (a0, a1) r) := by
 refine does_pn (L := [(0, .ro (List.map eInt a0)), (1, .v (.int .i64 a1))]) (fun bs => pin) fun bs t o => ?_
 show vwp _ ib_ev9 _ _
 unfold ib_ev9
 refine w_ir ?_
 unfold gf_ev9 at h
 obtain ⟨hf18, h⟩ := gd h
 obtain ⟨q8, h23, h⟩ := bnd h
 refine go ?_;intros
 refine w_last (fun t o => ∃ q8_, q8 = .inr q8_ ∧ Pin t (ovr [(0, .ro (List.map eInt a0)), (1, .v (.int .i64 a1))] t) ∧ PinH o (ovh [] o)) ?_ ?_
 ·refine w_loop2 (fun n t o => ∃ l12 k10  , gl_ev9_1 a1 l12 k10  = some q8 ∧ n = l12.length ∧ (a0).drop k10 = l12 ∧ Pin t (ovr [(0, .ro (List.map eInt a0)), (1, .v (.int .i64 a1)), (5, .v (.int .i64 (k10 : Int)))] t) ∧ PinH o (ovh [] o)) _ ⟨_, _, h23, rfl, rfl, pin, pinh⟩ ?_
  rintro n t o ⟨l12, k10, h23, rfl, hd13, pq1, pq2⟩
  refine pinned pq1 pq2 ?_
  cases l12 with
  | nil =>
   have hge15 := drop_ge hd13
   rw [gl_ev9_1] at h23
   refine go ?_;intros
   rw [hge15]
   refine go ?_;intros
   cases h23
   exact k_cn ⟨_, rfl, pin, pinh⟩
  | cons x11 l12 =>
   have hlt14 := drop_lt hd13
   have hx16 := drop_ix hd13
   have hw17 := drop_wr hd13 hf18
   rw [gl_ev9_1] at h23
   refine go ?_;intros
   rw [hlt14]
   refine go ?_;intros
   refine r_iro rfl rfl hx16 rfl ?_
   refine go ?_;intros
   refine s_split rfl (fun c => ?_) (fun c => ?_)
   ·replace h23 := itt h23 c
    rw [c]
    refine go ?_;intros
    cases h23
    replace h : some _ = some _ := h
    cases h
    exact r_end
   replace h23 := itf h23 c
   rw [c]
   refine go ?_;intros
   refine r_iro rfl rfl hx16 rfl ?_
   refine go ?_;intros
   refine w_cond rfl (fun c => ?_) (fun c => ?_)
   ·replace h23 := itt h23 c
    try rw [c]
    refine go ?_;intros
    cases h23
    replace h : some _ = some _ := h
    cases h
    exact r_end
   replace h23 := itf h23 c
   try rw [c]
   refine go ?_;intros
   rw [hw17]
   exact k_ln2 _ (Nat.lt_succ_self _) ⟨_, _, h23, rfl, drop_next hd13, pin, pinh⟩
 rintro t o ⟨q8, rfl, pq1, pq2⟩
 refine pinnedQ pq1 pq2 ?_
 refine go ?_;intros
 refine s_split rfl (fun c => ?_) (fun c => ?_)
 ·replace h := itt h (by first | exact c | (have c2 := c; simp only [List.length_map] at c2; exact c2))
  rw [c]
  refine go ?_;intros
  refine s_split rfl (fun c => ?_) (fun c => ?_)
  ·replace h := itt h (by first | exact c | (have c2 := c; simp only [List.length_map] at c2; exact c2))
   rw [c]
   refine go ?_;intros
   refine s_split rfl (fun c => ?_) (fun c => ?_)
   ·replace h := itt h (by first | exact c | (have c2 := c; simp only [List.length_map] at c2; exact c2))
    rw [c]
    refine go ?_;intros
    cases h
    exact r_end
   replace h := itf h (by first | exact c | (have c2 := c; simp only [List.length_map] at c2; exact c2))
   rw [c]
   obtain ⟨x19, h20, h⟩ := bnd h
   refine go ?_;intros
   refine r_iro rfl rfl h20 rfl ?_
   obtain ⟨x21, h22, h⟩ := bnd h
   refine go ?_;intros
   refine r_iro rfl rfl h22 rfl ?_
   refine go ?_;intros
   cases h
   exact r_end
  replace h := itf h (by first | exact c | (have c2 := c; simp only [List.length_map] at c2; exact c2))
  rw [c]
  refine go ?_;intros
  cases h
  exact r_end
 replace h := itf h (by first | exact c | (have c2 := c; simp only [List.length_map] at c2; exact c2))
 rw [c]
 refine go ?_;intros
 cases h
 exact r_end
theorem d_dy9 {G : Gam} (H_dr9 : Has G c_dr9) (a0 : (List Feat)) (r : Bool) (h : gf_dy9 a0 = some r) : Does G if_dy9 ks_dy9 (c_dy9.args (a0)) [] (c_dy9.ans (a0) r) := by
 refine does_pn (L := [(0, .ro (List.map (eFeat false) a0))]) (fun bs => pin) fun bs t o => ?_
 show vwp _ ib_dy9 _ _
 unfold ib_dy9
 refine w_ir ?_
 unfold gf_dy9 at h
 obtain ⟨hf28, h⟩ := gd h
 obtain ⟨q18, h33, h⟩ := bnd h
 refine go ?_;intros
 refine w_last (fun t o => ∃ q18_, q18 = .inr q18_ ∧ Pin t (ovr [(0, .ro (List.map (eFeat false) a0))] t) ∧ PinH o (ovh [] o)) ?_ ?_
 ·refine w_loop2 (fun n t o => ∃ l22 k20  , gl_dy9_1 a0 l22 k20  = some q18 ∧ n = l22.length ∧ (a0).drop k20 = l22 ∧ Pin t (ovr [(0, .ro (List.map (eFeat false) a0)), (3, .v (.int .i64 (k20 : Int)))] t) ∧ PinH o (ovh [] o)) _ ⟨_, _, h33, rfl, rfl, pin, pinh⟩ ?_
  rintro n t o ⟨l22, k20, h33, rfl, hd23, pq1, pq2⟩
  refine pinned pq1 pq2 ?_
  cases l22 with
  | nil =>
   have hge25 := drop_ge hd23
   rw [gl_dy9_1] at h33
   refine go ?_;intros
   rw [hge25]
   refine go ?_;intros
   cases h33
   exact k_cn ⟨_, rfl, pin, pinh⟩
  | cons x21 l22 =>
   have hlt24 := drop_lt hd23
   have hx26 := drop_ix hd23
   have hw27 := drop_wr hd23 hf28
   rw [gl_dy9_1] at h33
   refine go ?_;intros
   rw [hlt24]
   refine go ?_;intros
   refine r_iro rfl rfl hx26 rfl ?_
   obtain ⟨x29, h30, h33⟩ := bnd h33
   refine go ?_;intros
   refine c_call (c := c_dr9) (x21) H_dr9 h30 fun ch => ?_
   refine go ?_;intros
   refine s_split rfl (fun c => ?_) (fun c => ?_)
   ·replace h33 := itt h33 c
    rw [c]
    refine go ?_;intros
    cases h33
    replace h : some _ = some _ := h
    cases h
    exact r_end
   replace h33 := itf h33 c
   rw [c]
   refine go ?_;intros
   refine s_split rfl (fun c => ?_) (fun c => ?_)
   ·replace h33 := itt h33 c
    rw [c]
    refine go ?_;intros
    refine r_iro rfl rfl hx26 rfl ?_
    obtain ⟨x31, h32, h33⟩ := bnd h33
    refine go ?_;intros
    refine r_iro rfl rfl h32 rfl ?_
    refine go ?_;intros
    refine w_cond rfl (fun c => ?_) (fun c => ?_)
    ·replace h33 := itt h33 c
     try rw [c]
     refine go ?_;intros
     cases h33
     replace h : some _ = some _ := h
     cases h
     exact r_end
    replace h33 := itf h33 c
    try rw [c]
    refine go ?_;intros
    rw [hw27]
    exact k_ln2 _ (Nat.lt_succ_self _) ⟨_, _, h33, rfl, drop_next hd23, pin, pinh⟩
   replace h33 := itf h33 c
   rw [c]
   refine go ?_;intros
   rw [hw27]
   exact k_ln2 _ (Nat.lt_succ_self _) ⟨_, _, h33, rfl, drop_next hd23, pin, pinh⟩
 rintro t o ⟨q18, rfl, pq1, pq2⟩
 refine pinnedQ pq1 pq2 ?_
 refine go ?_;intros
 cases h
 exact r_end
theorem d_eo9 {G : Gam} (H_eu9 : Has G c_eu9) (a0 : Repo) (a1 : Commit) (r : Int) (h : gf_eo9 a0 a1 = some r) : Does G if_eo9 ks_eo9 (c_eo9.args (a0, a1)) [] (c_eo9.ans (a0, a1) r) := by
 refine does_pn (L := [(0, .agg [.ro (List.map (eCommit false) a0.commits), .ro (List.map eHead a0.heads)]), (1, .agg [.ro (List.map eInt a1.up), .ro (List.map (eFeat false) a1.sheet), .v (.string a1.note)])]) (fun bs => pin) fun bs t o => ?_
 show vwp _ ib_eo9 _ _
 unfold ib_eo9
 refine w_ir ?_
 unfold gf_eo9 at h
 obtain ⟨hf32, h⟩ := gd h
 obtain ⟨q20, h35, h⟩ := bnd h
 refine go ?_;intros
 refine w_last (fun t o => ∃ q20_, q20 = .inr q20_ ∧ Pin t (ovr [] t) ∧ PinH o (ovh [] o)) ?_ ?_
 ·refine w_loop2 (fun n t o => ∃ l26 k24  b22 b23, gl_eo9_1 a1 l26 k24  = some q20 ∧ n = l26.length ∧ (a0.commits).drop k24 = l26 ∧ Pin t (ovr [(2, .ptr 16 b22 210 0 0), (3, .ptr 24 b23 115 0 0), (5, .v (.int .i64 (k24 : Int)))] t) ∧ PinH o (ovh [(16, ⟨b22, 1, 210, true, [[.sl false 3 (List.map (eCommit false) a0.commits), .sl false 2 (List.map eHead a0.heads)]]⟩), (24, ⟨b23, 1, 115, true, [[.sl false 1 (List.map eInt a1.up), .sl false 4 (List.map (eFeat false) a1.sheet), .v (.string a1.note)]]⟩)] o)) _ ⟨_, _, _, _, h35, rfl, rfl, pin, pinh⟩ ?_
  rintro n t o ⟨l26, k24, b22, b23, h35, rfl, hd27, pq1, pq2⟩
  refine pinned pq1 pq2 ?_
  cases l26 with
  | nil =>
   have hge29 := drop_ge hd27
   rw [gl_eo9_1] at h35
   refine go ?_;intros
   rw [hge29]
   refine go ?_;intros
   cases h35
   exact k_cn ⟨_, rfl, pin, pinh⟩
  | cons x25 l26 =>
   have hlt28 := drop_lt hd27
   have hx30 := drop_ix hd27
   have hw31 := drop_wr hd27 hf32
   rw [gl_eo9_1] at h35
   refine go ?_;intros
   rw [hlt28]
   refine go ?_;intros
   refine r_iro rfl rfl hx30 rfl ?_
   obtain ⟨x33, h34, h35⟩ := bnd h35
   refine go ?_;intros
   refine c_call (c := c_eu9) (x25, a1) H_eu9 h34 fun ch => ?_
   refine go ?_;intros
   refine w_cond rfl (fun c => ?_) (fun c => ?_)
   ·replace h35 := itt h35 c
    try rw [c]
    refine go ?_;intros
    cases h35
    replace h : some _ = some _ := h
    cases h
    exact r_end
   replace h35 := itf h35 c
   try rw [c]
   refine go ?_;intros
   rw [hw31]
   exact k_ln2 _ (Nat.lt_succ_self _) ⟨_, _, _, _, h35, rfl, drop_next hd27, pin, pinh⟩
 rintro t o ⟨q20, rfl, pq1, pq2⟩
 refine pinnedQ pq1 pq2 ?_
 refine go ?_;intros
 cases h
 exact r_end
theorem d_ep9 {G : Gam}  (a0 : Repo) (a1 : Str) (r : Int) (h : gf_ep9 a0 a1 = some r) : Does G if_ep9 ks_ep9 (c_ep9.args (a0, a1)) [] (c_ep9.ans (a0, a1) r) := by
 refine does_pn (L := [(0, .agg [.ro (List.map (eCommit false) a0.commits), .ro (List.map eHead a0.heads)]), (1, .v (.string a1))]) (fun bs => pin) fun bs t o => ?_
 show vwp _ ib_ep9 _ _
 unfold ib_ep9
 refine w_ir ?_
 unfold gf_ep9 at h
 obtain ⟨hf22, h⟩ := gd h
 obtain ⟨q11, h23, h⟩ := bnd h
 refine go ?_;intros
 refine w_last (fun t o => ∃ q11_, q11 = .inr q11_ ∧ Pin t (ovr [] t) ∧ PinH o (ovh [] o)) ?_ ?_
 ·refine w_loop2 (fun n t o => ∃ l16 k14  b13, gl_ep9_1 a1 l16 k14  = some q11 ∧ n = l16.length ∧ (a0.heads).drop k14 = l16 ∧ Pin t (ovr [(1, .v (.string a1)), (2, .ptr 16 b13 210 0 0), (5, .v (.int .i64 (k14 : Int)))] t) ∧ PinH o (ovh [(16, ⟨b13, 1, 210, true, [[.sl false 3 (List.map (eCommit false) a0.commits), .sl false 2 (List.map eHead a0.heads)]]⟩)] o)) _ ⟨_, _, _, h23, rfl, rfl, pin, pinh⟩ ?_
  rintro n t o ⟨l16, k14, b13, h23, rfl, hd17, pq1, pq2⟩
  refine pinned pq1 pq2 ?_
  cases l16 with
  | nil =>
   have hge19 := drop_ge hd17
   rw [gl_ep9_1] at h23
   refine go ?_;intros
   rw [hge19]
   refine go ?_;intros
   cases h23
   exact k_cn ⟨_, rfl, pin, pinh⟩
  | cons x15 l16 =>
   have hlt18 := drop_lt hd17
   have hx20 := drop_ix hd17
   have hw21 := drop_wr hd17 hf22
   rw [gl_ep9_1] at h23
   refine go ?_;intros
   rw [hlt18]
   refine go ?_;intros
   refine r_iro rfl rfl hx20 rfl ?_
   refine go ?_;intros
   refine w_cond rfl (fun c => ?_) (fun c => ?_)
   ·replace h23 := itt h23 c
    try rw [c]
    refine go ?_;intros
    cases h23
    replace h : some _ = some _ := h
    cases h
    exact r_end
   replace h23 := itf h23 c
   try rw [c]
   refine go ?_;intros
   rw [hw21]
   exact k_ln2 _ (Nat.lt_succ_self _) ⟨_, _, _, h23, rfl, drop_next hd17, pin, pinh⟩
 rintro t o ⟨q11, rfl, pq1, pq2⟩
 refine pinnedQ pq1 pq2 ?_
 refine go ?_;intros
 cases h
 exact r_end
theorem d_ef9 {G : Gam}  (a0 : Shape) (r : Shape) (h : gf_ef9 a0 = some r) : Does G if_ef9 ks_ef9 (c_ef9.args (a0)) [] (c_ef9.ans (a0) r) := by
 refine does_pn (L := [(0, .agg [.v (.int .i64 a0.kind), .ro (List.map ePt a0.pts)])]) (fun bs => pin) fun bs t o => ?_
 show vwp _ ib_ef9 _ _
 unfold ib_ef9
 refine w_ir ?_
 unfold gf_ef9 at h
 obtain ⟨h6, h⟩ := gd h
 refine go ?_;intros
 refine r_app (f := ePt) (xs := ([] : (List Pt))) (ys := a0.pts) rfl (src_ro (fun _ => rfl) (fun _ => rfl)) rfl rfl (by first | rfl | simp) h6 fun b4 c5 => ?_
 refine go ?_;intros
 cases h
 exact r_end
theorem d_ej9 {G : Gam} (H_ef9 : Has G c_ef9) (a0 : Feat) (r : Feat) (h : gf_ej9 a0 = some r) : Does G if_ej9 ks_ej9 (c_ej9.args (a0)) [] (c_ej9.ans (a0) r) := by
 refine does_pn (L := [(0, .agg [.v (.string a0.id), .v (.int .i64 a0.shape.kind), .ro (List.map ePt a0.shape.pts), .ro (List.map eTag a0.tags)])]) (fun bs => pin) fun bs t o => ?_
 show vwp _ ib_ej9 _ _
 unfold ib_ej9
 refine w_ir ?_
 unfold gf_ej9 at h
 obtain ⟨x3, h4, h⟩ := bnd h
 refine go ?_;intros
 refine c_call (c := c_ef9) (a0.shape) H_ef9 h4 fun ch => ?_
 obtain ⟨h10, h⟩ := gd h
 refine go ?_;intros
 refine r_app (f := eTag) (xs := ([] : (List Tag))) (ys := a0.tags) rfl (src_ro (fun _ => rfl) (fun _ => rfl)) rfl rfl (by first | rfl | simp) h10 fun b8 c9 => ?_
 refine go ?_;intros
 cases h
 exact r_end
end Go.Proofs.AM
