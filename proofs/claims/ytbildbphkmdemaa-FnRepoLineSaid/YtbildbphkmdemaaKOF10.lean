/- Lemmas of the proof (KOF10), on an abstract machine. Conditions: none. -/
import Derived.Test.YtbildbphkmdemaaKOD
set_option linter.unusedVariables false
set_option linter.unusedSimpArgs false
set_option maxRecDepth 100000
set_option maxHeartbeats 4000000
namespace Go.Proofs.AM
attribute [local irreducible] vwp vstps vstpLs vstp vdo vret kseq kblk kloop kend kcut kloop2 frzV renV shutK pfzV trnV unrV
theorem d_ai9 {G : Gam} (H_az9 : Has G c_az9) (a0 : Str) (r : (Repo × Bool)) (h : gf_ai9 a0 = some r) : Does G if_ai9 ks_ai9 (c_ai9.args (a0)) [] (c_ai9.ans (a0) r) := by
 refine does_pn (L := [(0, .v (.string a0))]) (fun bs => pin) fun bs t o => ?_
 show vwp _ ib_ai9 _ _
 unfold ib_ai9
 refine w_ir ?_
 unfold gf_ai9 at h
 obtain ⟨x2, h3, h⟩ := bnd h
 refine go ?_;intros
 refine c_call (c := c_az9) (a0) H_az9 h3 fun ch => ?_
 refine go ?_;intros
 refine w_cond rfl (fun c => ?_) (fun c => ?_)
 ·replace h := itt h c
  try rw [c]
  refine go ?_;intros
  cases h
  exact r_end
 replace h := itf h c
 try rw [c]
 refine go ?_;intros
 try simp only [take_map_len, take_ent]
 refine go ?_;intros
 cases h
 exact r_end
theorem d_bw9 {G : Gam}  (a0 : (List Head)) (a1 : (List Head)) (r : Bool) (h : gf_bw9 a0 a1 = some r) : Does G if_bw9 ks_bw9 (c_bw9.args (a0, a1)) [] (c_bw9.ans (a0, a1) r) := by
 refine does_pn (L := [(0, .ro (List.map eHead a0)), (1, .ro (List.map eHead a1))]) (fun bs => pin) fun bs t o => ?_
 show vwp _ ib_bw9 _ _
 unfold ib_bw9
 refine w_ir ?_
 unfold gf_bw9 at h
 refine go ?_;intros
 refine w_cond rfl (fun c => ?_) (fun c => ?_)
 ·replace h := itt h (by first | exact c | (have c2 := c; simp only [List.length_map] at c2; exact c2))
  try rw [c]
  refine go ?_;intros
  cases h
  exact r_end
 replace h := itf h (by first | exact c | (have c2 := c; simp only [List.length_map] at c2; exact c2))
 try rw [c]
 obtain ⟨hf24, h⟩ := gd h
 obtain ⟨q14, h27, h⟩ := bnd h
 refine go ?_;intros
 refine w_last (fun t o => ∃ q14_, q14 = .inr q14_ ∧ Pin t (ovr [] t) ∧ PinH o (ovh [] o)) ?_ ?_
 ·refine w_loop2 (fun n t o => ∃ l18 k16  , gl_bw9_1 a1 l18 k16  = some q14 ∧ n = l18.length ∧ (a0).drop k16 = l18 ∧ Pin t (ovr [(0, .ro (List.map eHead a0)), (1, .ro (List.map eHead a1)), (12, .v (.int .i64 (a0.length : Int))), (13, .v (.int .i64 (k16 : Int)))] t) ∧ PinH o (ovh [] o)) _ ⟨_, _, h27, rfl, rfl, pin, pinh⟩ ?_
  rintro n t o ⟨l18, k16, h27, rfl, hd19, pq1, pq2⟩
  refine pinned pq1 pq2 ?_
  cases l18 with
  | nil =>
   have hge21 := drop_ge hd19
   rw [gl_bw9_1] at h27
   refine go ?_;intros
   rw [hge21]
   refine go ?_;intros
   cases h27
   exact k_cn ⟨_, rfl, pin, pinh⟩
  | cons x17 l18 =>
   have hlt20 := drop_lt hd19
   have hx22 := drop_ix hd19
   have hw23 := drop_wr hd19 hf24
   rw [gl_bw9_1] at h27
   refine go ?_;intros
   rw [hlt20]
   refine go ?_;intros
   refine r_iro rfl rfl hx22 rfl ?_
   obtain ⟨x25, h26, h27⟩ := bnd h27
   refine go ?_;intros
   refine r_iro rfl rfl h26 rfl ?_
   refine go ?_;intros
   refine w_cond rfl (fun c => ?_) (fun c => ?_)
   ·replace h27 := itt h27 c
    try rw [c]
    refine go ?_;intros
    cases h27
    replace h : some _ = some _ := h
    cases h
    exact r_end
   replace h27 := itf h27 c
   try rw [c]
   refine go ?_;intros
   rw [hw23]
   exact k_ln2 _ (Nat.lt_succ_self _) ⟨_, _, h27, rfl, drop_next hd19, pin, pinh⟩
 rintro t o ⟨q14, rfl, pq1, pq2⟩
 refine pinnedQ pq1 pq2 ?_
 refine go ?_;intros
 cases h
 exact r_end
theorem d_bt9 {G : Gam} (H_bj9 : Has G c_bj9) (a0 : (List Commit)) (a1 : (List Commit)) (r : Bool) (h : gf_bt9 a0 a1 = some r) : Does G if_bs9 ks_bs9 (c_bt9.args (a0, a1)) [] (c_bt9.ans (a0, a1) r) := by
 refine does_pn (L := [(0, .ro (List.map (eCommit false) a0)), (1, .ro (List.map (eCommit false) a1)), (2, .fn 330 [])]) (fun bs => pin) fun bs t o => ?_
 show vwp _ ib_bs9 _ _
 unfold ib_bs9
 refine w_ir ?_
 unfold gf_bt9 at h
 refine go ?_;intros
 refine w_cond rfl (fun c => ?_) (fun c => ?_)
 ·replace h := itt h (by first | exact c | (have c2 := c; simp only [List.length_map] at c2; exact c2))
  try rw [c]
  refine go ?_;intros
  cases h
  exact r_end
 replace h := itf h (by first | exact c | (have c2 := c; simp only [List.length_map] at c2; exact c2))
 try rw [c]
 obtain ⟨hf36, h⟩ := gd h
 obtain ⟨q26, h43, h⟩ := bnd h
 refine go ?_;intros
 refine w_last (fun t o => ∃ q26_, q26 = .inr q26_ ∧ Pin t (ovr [] t) ∧ PinH o (ovh [] o)) ?_ ?_
 ·refine w_loop2 (fun n t o => ∃ l30 k28  , gl_bt9_1 a1 l30 k28  = some q26 ∧ n = l30.length ∧ (a0).drop k28 = l30 ∧ Pin t (ovr [(1, .ro (List.map (eCommit false) a1)), (2, .fn 330 []), (15, .ro (List.map (eCommit false) a0)), (16, .v (.int .i64 (a0.length : Int))), (17, .v (.int .i64 (k28 : Int)))] t) ∧ PinH o (ovh [] o)) _ ⟨_, _, h43, rfl, rfl, pin, pinh⟩ ?_
  rintro n t o ⟨l30, k28, h43, rfl, hd31, pq1, pq2⟩
  refine pinned pq1 pq2 ?_
  cases l30 with
  | nil =>
   have hge33 := drop_ge hd31
   rw [gl_bt9_1] at h43
   refine go ?_;intros
   rw [hge33]
   refine go ?_;intros
   cases h43
   exact k_cn ⟨_, rfl, pin, pinh⟩
  | cons x29 l30 =>
   have hlt32 := drop_lt hd31
   have hx34 := drop_ix hd31
   have hw35 := drop_wr hd31 hf36
   rw [gl_bt9_1] at h43
   refine go ?_;intros
   rw [hlt32]
   refine go ?_;intros
   refine r_iro rfl rfl hx34 rfl ?_
   obtain ⟨x38, h39, h43⟩ := bnd h43
   refine go ?_;intros
   refine r_iro rfl rfl h39 rfl ?_
   obtain ⟨x41, h42, h43⟩ := bnd h43
   refine go ?_;intros
   refine c_calld (c := c_bj9) (x29, x38) H_bj9 h42 fun ch => ?_
   refine go ?_;intros
   refine w_cond rfl (fun c => ?_) (fun c => ?_)
   ·replace h43 := itt h43 c
    try rw [c]
    refine go ?_;intros
    cases h43
    replace h : some _ = some _ := h
    cases h
    exact r_end
   replace h43 := itf h43 c
   try rw [c]
   refine go ?_;intros
   rw [hw35]
   exact k_ln2 _ (Nat.lt_succ_self _) ⟨_, _, h43, rfl, drop_next hd31, pin, pinh⟩
 rintro t o ⟨q26, rfl, pq1, pq2⟩
 refine pinnedQ pq1 pq2 ?_
 refine go ?_;intros
 cases h
 exact r_end
theorem d_al9 {G : Gam} (H_bt9 : Has G c_bt9) (H_bw9 : Has G c_bw9) (a0 : Repo) (a1 : Repo) (r : Bool) (h : gf_al9 a0 a1 = some r) : Does G if_al9 ks_al9 (c_al9.args (a0, a1)) [] (c_al9.ans (a0, a1) r) := by
 refine does_pn (L := [(0, .agg [.ro (List.map (eCommit false) a0.commits), .ro (List.map eHead a0.heads)]), (1, .agg [.ro (List.map (eCommit false) a1.commits), .ro (List.map eHead a1.heads)])]) (fun bs => pin) fun bs t o => ?_
 show vwp _ ib_al9 _ _
 unfold ib_al9
 refine w_ir ?_
 unfold gf_al9 at h
 obtain ⟨x3, h4, h⟩ := bnd h
 refine go ?_;intros
 refine c_call (c := c_bt9) (a0.commits, a1.commits) H_bt9 h4 fun ch => ?_
 refine go ?_;intros
 refine s_split rfl (fun c => ?_) (fun c => ?_)
 ·replace h := itt h c
  rw [c]
  obtain ⟨x5, h6, h⟩ := bnd h
  refine go ?_;intros
  refine c_call (c := c_bw9) (a0.heads, a1.heads) H_bw9 h6 fun ch => ?_
  refine go ?_;intros
  cases h
  exact r_end
 replace h := itf h c
 rw [c]
 refine go ?_;intros
 cases h
 exact r_end
theorem d_aa9 {G : Gam} (H_ab9 : Has G c_ab9) (a0 : Str) (a1 : Str) (r : Int) (h : gf_aa9 a0 a1 = some r) : Does G if_aa9 ks_aa9 (c_aa9.args (a0, a1)) [] (c_aa9.ans (a0, a1) r) := by
 refine does_pn (L := [(0, .v (.string a0)), (1, .v (.string a1))]) (fun bs => pin) fun bs t o => ?_
 show vwp _ ib_aa9 _ _
 unfold ib_aa9
 refine w_ir ?_
 unfold gf_aa9 at h
 obtain ⟨x1, h2, h⟩ := bnd h
 refine go ?_;intros
 refine c_call (c := c_ab9) (a0) H_ab9 h2 fun ch => ?_
 obtain ⟨x3, h4, h⟩ := bnd h
 refine go ?_;intros
 refine c_call (c := c_ab9) (a1) H_ab9 h4 fun ch => ?_
 refine go ?_;intros
 refine w_cond rfl (fun c => ?_) (fun c => ?_)
 ·replace h := itt h c
  try rw [c]
  refine go ?_;intros
  refine w_cond rfl (fun c => ?_) (fun c => ?_)
  ·replace h := itt h c
   try rw [c]
   refine go ?_;intros
   cases h
   exact r_end
  replace h := itf h c
  try rw [c]
  refine go ?_;intros
  cases h
  exact r_end
 replace h := itf h c
 try rw [c]
 refine go ?_;intros
 refine w_cond rfl (fun c => ?_) (fun c => ?_)
 ·replace h := itt h c
  try rw [c]
  refine go ?_;intros
  cases h
  exact r_end
 replace h := itf h c
 try rw [c]
 refine go ?_;intros
 refine w_cond rfl (fun c => ?_) (fun c => ?_)
 ·replace h := itt h c
  try rw [c]
  refine go ?_;intros
  cases h
  exact r_end
 replace h := itf h c
 try rw [c]
 refine go ?_;intros
 refine w_cond rfl (fun c => ?_) (fun c => ?_)
 ·replace h := itt h c
  try rw [c]
  refine go ?_;intros
  cases h
  exact r_end
 replace h := itf h c
 try rw [c]
 refine go ?_;intros
 cases h
 exact r_end
theorem d_ax9 {G : Gam} (H_aa9 : Has G c_aa9) (a0 : Feat) (a1 : Feat) (r : Int) (h : gf_ax9 a0 a1 = some r) : Does G if_ax9 ks_ax9 (c_ax9.args (a0, a1)) [] (c_ax9.ans (a0, a1) r) := by
 refine does_pn (L := [(0, .agg [.v (.string a0.id), .v (.int .i64 a0.shape.kind), .ro (List.map ePt a0.shape.pts), .ro (List.map eTag a0.tags)]), (1, .agg [.v (.string a1.id), .v (.int .i64 a1.shape.kind), .ro (List.map ePt a1.shape.pts), .ro (List.map eTag a1.tags)])]) (fun bs => pin) fun bs t o => ?_
 show vwp _ ib_ax9 _ _
 unfold ib_ax9
 refine w_ir ?_
 unfold gf_ax9 at h
 obtain ⟨x3, h4, h⟩ := bnd h
 refine go ?_;intros
 refine c_call (c := c_aa9) (a0.id, a1.id) H_aa9 h4 fun ch => ?_
 refine go ?_;intros
 cases h
 exact r_end
theorem d_cm9 {G : Gam} (H_ax9 : Has G c_ax9) (a0 : (List Feat)) (a1 : Int) (a2 : Int) (r : (List Feat)) (h : gf_cm9 a0 a1 a2 = some r) : Does G if_cl9 ks_cl9 (c_cm9.args (a0, a1, a2)) (c_cm9.ins (a0, a1, a2)) (c_cm9.ans (a0, a1, a2) r) := by
 refine does_pg (L := fun bs => [(0, .ref 0 (bs 0).1 (bs 0).2 0 a0.length 100), (1, .v (.int .i64 a1)), (2, .v (.int .i64 a2)), (3, .fn 333 [])]) (H := fun bs => [(0, ent (bs 0).1 (bs 0).2 100 (List.map (eFeat false) a0))]) (fun bs => pin) (fun bs => pinh) fun bs t o => ?_
 show vwp _ ib_cl9 _ _
 unfold ib_cl9
 refine w_ir ?_
 unfold gf_cm9 at h
 obtain ⟨q120, h164, h⟩ := bnd h
 refine go ?_;intros
 refine w_last (fun t o => Pin t (ovr [] t) ∧ PinH o (ovh [(0, ent (bs 0).1 (bs 0).2 100 (List.map (eFeat false) q120))] o)) ?_ ?_
 ·refine w_loop2 (fun n t o => ∃ n123 v121 v122 , gl_cm9_4 a2 a1 n123 v121 v122 = some q120 ∧ n123 = n ∧ Pin t (ovr [(0, .ref 0 (bs 0).1 (bs 0).2 0 v122.length 100), (1, .v (.int .i64 a1)), (2, .v (.int .i64 a2)), (3, .fn 333 []), (8, .v (.int .i64 v121))] t) ∧ PinH o (ovh [(0, ent (bs 0).1 (bs 0).2 100 (List.map (eFeat false) v122))] o)) _ ⟨_, _, _, h164, rfl, pin, pinh⟩ ?_
  rintro n t o ⟨n123, v121, v122, h164, rfl, pq1, pq2⟩
  refine pinned pq1 pq2 ?_
  cases n123 with
  | zero => rw [gl_cm9_4] at h164; cases h164
  | succ n123 =>
   rw [gl_cm9_4] at h164
   refine go ?_;intros
   refine w_cond rfl (fun c => ?_) (fun c => ?_)
   ·replace h164 := itt h164 c
    try rw [c]
    obtain ⟨q150, h165, h164⟩ := bnd h164
    refine go ?_;intros
    refine w_last (fun t o => Pin t (ovr [(0, .ref 0 (bs 0).1 (bs 0).2 0 q150.length 100), (1, .v (.int .i64 a1)), (2, .v (.int .i64 a2)), (3, .fn 333 []), (8, .v (.int .i64 v121))] t) ∧ PinH o (ovh [(0, ent (bs 0).1 (bs 0).2 100 (List.map (eFeat false) q150))] o)) ?_ ?_
    ·refine w_loop2 (fun n t o => ∃ n153 v151 v152 , gl_cm9_5 a1 n153 v151 v152 = some q150 ∧ n153 = n ∧ Pin t (ovr [(0, .ref 0 (bs 0).1 (bs 0).2 0 v152.length 100), (1, .v (.int .i64 a1)), (2, .v (.int .i64 a2)), (3, .fn 333 []), (8, .v (.int .i64 v121)), (9, .v (.int .i64 v151))] t) ∧ PinH o (ovh [(0, ent (bs 0).1 (bs 0).2 100 (List.map (eFeat false) v152))] o)) _ ⟨_, _, _, h165, rfl, pin, pinh⟩ ?_
     rintro n t o ⟨n153, v151, v152, h165, rfl, pq1, pq2⟩
     refine pinned pq1 pq2 ?_
     cases n153 with
     | zero => rw [gl_cm9_5] at h165; cases h165
     | succ n153 =>
      rw [gl_cm9_5] at h165
      refine go ?_;intros
      refine s_split rfl (fun c => ?_) (fun c => ?_)
      ·replace h165 := itt h165 c
       rw [c]
       obtain ⟨x154, h155, h165⟩ := bnd h165
       refine go ?_;intros
       refine r_ire (xs := v152) rfl rfl h155 rfl ?_
       refine go ?_;intros
       refine r_lde (f := (eFeat false)) (xs := v152) (x := x154) rfl rfl (idx_get h155).2 rfl rfl rfl ?_
       obtain ⟨x156, h157, h165⟩ := bnd h165
       refine go ?_;intros
       refine r_ire (xs := v152) rfl rfl h157 rfl ?_
       refine go ?_;intros
       refine r_lde (f := (eFeat false)) (xs := v152) (x := x156) rfl rfl (idx_get h157).2 rfl rfl rfl ?_
       obtain ⟨x158, h159, h165⟩ := bnd h165
       refine go ?_;intros
       refine c_calld (c := c_ax9) (x154, x156) H_ax9 h159 fun ch => ?_
       refine go ?_;intros
       refine w_cond rfl (fun c => ?_) (fun c => ?_)
       ·replace h165 := itt h165 c
        try rw [c]
        refine go ?_;intros
        refine r_ire (xs := v152) rfl rfl h157 rfl ?_
        refine go ?_;intros
        refine r_lde (f := (eFeat false)) (xs := v152) (x := x156) rfl rfl (idx_get h157).2 rfl rfl rfl ?_
        refine go ?_;intros
        refine r_ire (xs := v152) rfl rfl h155 rfl ?_
        refine go ?_;intros
        refine r_lde (f := (eFeat false)) (xs := v152) (x := x154) rfl rfl (idx_get h155).2 rfl rfl rfl ?_
        refine go ?_;intros
        refine r_ire (xs := v152) rfl rfl h155 rfl ?_
        refine go ?_;intros
        refine c_ste (f := (eFeat false)) v152 x156 (idx_get h155).2 ?_
        obtain ⟨x160, h161, h165⟩ := bnd h165
        refine go ?_;intros
        refine r_ire (xs := (List.set v152 v151.toNat x156)) rfl rfl h161 rfl ?_
        refine go ?_;intros
        refine c_ste (f := (eFeat false)) (List.set v152 v151.toNat x156) x154 (idx_get h161).2 ?_
        refine go ?_;intros
        exact k_ln2 _ (Nat.lt_succ_self _) ⟨_, _, _, h165, rfl, pin, pinh⟩
       replace h165 := itf h165 c
       try rw [c]
       refine go ?_;intros
       cases h165
       exact k_cn ⟨pin, pinh⟩
      replace h165 := itf h165 c
      rw [c]
      refine go ?_;intros
      cases h165
      exact k_cn ⟨pin, pinh⟩
    rintro t o ⟨pq1, pq2⟩
    refine pinnedQ pq1 pq2 ?_
    refine go ?_;intros
    exact k_ln2 _ (Nat.lt_succ_self _) ⟨_, _, _, h164, rfl, pin, pinh⟩
   replace h164 := itf h164 c
   try rw [c]
   refine go ?_;intros
   cases h164
   exact k_cn ⟨pin, pinh⟩
 rintro t o ⟨pq1, pq2⟩
 refine pinnedQ pq1 pq2 ?_
 refine go ?_;intros
 cases h
 exact r_endg
theorem d_co9 {G : Gam} (H_cm9 : Has G c_cm9) (a0 : (List Feat)) (a1 : Int) (a2 : Int) (a3 : Int) (r : (List Feat)) (h : gf_co9 a0 a1 a2 a3 = some r) : Does G if_cn9 ks_cn9 (c_co9.args (a0, a1, a2, a3)) (c_co9.ins (a0, a1, a2, a3)) (c_co9.ans (a0, a1, a2, a3) r) := by
 refine does_pg (L := fun bs => [(0, .ref 0 (bs 0).1 (bs 0).2 0 a0.length 100), (1, .v (.int .i64 a1)), (2, .v (.int .i64 a2)), (3, .v (.int .i64 a3)), (4, .fn 333 [])]) (H := fun bs => [(0, ent (bs 0).1 (bs 0).2 100 (List.map (eFeat false) a0))]) (fun bs => pin) (fun bs => pinh) fun bs t o => ?_
 show vwp _ ib_cn9 _ _
 unfold ib_cn9
 refine w_ir ?_
 unfold gf_co9 at h
 obtain ⟨q3, h7, h⟩ := bnd h
 refine go ?_;intros
 refine w_last (fun t o => ∃ q3_, q3 = .inr q3_ ∧ Pin t (ovr [] t) ∧ PinH o (ovh [] o)) ?_ ?_
 ·refine w_loop2 (fun n t o => ∃ n4  , gl_co9_1 a2 a1 a0 a3 n4  = some q3 ∧ n4 = n ∧ Pin t (ovr [(0, .ref 0 (bs 0).1 (bs 0).2 0 a0.length 100), (1, .v (.int .i64 a1)), (2, .v (.int .i64 a2)), (3, .v (.int .i64 a3)), (4, .fn 333 []), (10, .v (.bool true)), (11, .v (.bool true))] t) ∧ PinH o (ovh [(0, ent (bs 0).1 (bs 0).2 100 (List.map (eFeat false) a0))] o)) _ ⟨_, h7, rfl, pin, pinh⟩ ?_
  rintro n t o ⟨n4, h7, rfl, pq1, pq2⟩
  refine pinned pq1 pq2 ?_
  cases n4 with
  | zero => rw [gl_co9_1] at h7; cases h7
  | succ n4 =>
   rw [gl_co9_1] at h7
   refine go ?_;intros
   refine w_cond rfl (fun c => ?_) (fun c => ?_)
   ·replace h7 := itt h7 c
    try rw [c]
    obtain ⟨x5, h6, h7⟩ := bnd h7
    refine go ?_;intros
    have L6 := l_cm9 h6; (try dsimp only at L6); refine c_callg (c := c_cm9) (a0, a1, a2) H_cm9 h6 fun ch => ?_
    refine go ?_;intros
    cases h7
    replace h : some _ = some _ := h
    cases h
    exact r_endg
   replace h7 := itf h7 c
   try rw [c]
   refine go ?_;intros
   refine w_cond rfl (fun c => ?_) (fun c => ?_)
   ·replace h7 := itt h7 c
    try rw [c]
    cases h7
   replace h7 := itf h7 c
   try rw [c]
   cases h7
 rintro t o ⟨q3, rfl, pq1, pq2⟩
 refine pinnedQ pq1 pq2 ?_
 cases h
theorem d_ck9 {G : Gam} (H_bm9 : Has G c_bm9) (H_co9 : Has G c_co9) (a0 : (List Feat)) (r : (List Feat)) (h : gf_ck9 a0 = some r) : Does G if_cj9 ks_cj9 (c_ck9.args (a0)) (c_ck9.ins (a0)) (c_ck9.ans (a0) r) := by
 refine does_pg (L := fun bs => [(0, .ref 0 (bs 0).1 (bs 0).2 0 a0.length 100), (1, .fn 333 [])]) (H := fun bs => [(0, ent (bs 0).1 (bs 0).2 100 (List.map (eFeat false) a0))]) (fun bs => pin) (fun bs => pinh) fun bs t o => ?_
 show vwp _ ib_cj9 _ _
 unfold ib_cj9
 refine w_ir ?_
 unfold gf_ck9 at h
 obtain ⟨x1, h2, h⟩ := bnd h
 refine go ?_;intros
 refine c_call (c := c_bm9) ((IntKind.u64.wrap (a0.length : Int))) H_bm9 h2 fun ch => ?_
 obtain ⟨x3, h4, h⟩ := bnd h
 refine go ?_;intros
 have L4 := l_co9 h4; (try dsimp only at L4); refine c_callg (c := c_co9) (a0, 0, (a0.length : Int), x1) H_co9 h4 fun ch => ?_
 refine go ?_;intros
 cases h
 exact r_endg
theorem d_aw9 {G : Gam} (H_av9 : Has G c_av9) (H_ac9 : Has G c_ac9) (H_be9 : Has G c_be9) (H_bf9 : Has G c_bf9) (H_bb9 : Has G c_bb9) (H_ck9 : Has G c_ck9) (a0 : (List Feat)) (a1 : Feat) (r : ((List Feat) × Bool)) (h : gf_aw9 a0 a1 = some r) : Does G if_aw9 ks_aw9 (c_aw9.args (a0, a1)) [] (c_aw9.ans (a0, a1) r) := by
 refine does_pn (L := [(0, .ro (List.map (eFeat false) a0)), (1, .agg [.v (.string a1.id), .v (.int .i64 a1.shape.kind), .ro (List.map ePt a1.shape.pts), .ro (List.map eTag a1.tags)])]) (fun bs => pin) fun bs t o => ?_
 show vwp _ ib_aw9 _ _
 unfold ib_aw9
 refine w_ir ?_
 unfold gf_aw9 at h
 obtain ⟨x2, h3, h⟩ := bnd h
 refine go ?_;intros
 refine c_call (c := c_av9) (a0) H_av9 h3 fun ch => ?_
 refine go ?_;intros
 refine s_split rfl (fun c => ?_) (fun c => ?_)
 ·replace h := itt h c
  rw [c]
  refine go ?_;intros
  cases h
  exact r_end
 replace h := itf h c
 rw [c]
 obtain ⟨x4, h5, h⟩ := bnd h
 refine go ?_;intros
 refine c_call (c := c_ac9) (a1) H_ac9 h5 fun ch => ?_
 refine go ?_;intros
 refine w_cond rfl (fun c => ?_) (fun c => ?_)
 ·replace h := itt h c
  try rw [c]
  refine go ?_;intros
  cases h
  exact r_end
 replace h := itf h c
 try rw [c]
 refine go ?_;intros
 refine r_pfz ?_
 obtain ⟨x8, h9, h⟩ := bnd h
 refine go ?_;intros
 refine c_call (c := c_be9) (a0) H_be9 h9 fun ch => ?_
 refine go ?_;intros
 refine r_pz (f := eFeat true) (g := eFeat false) (pf_Feat _) rfl rfl ?_
 obtain ⟨x12, h13, h⟩ := bnd h
 refine go ?_;intros
 refine c_call (c := c_bf9) (x8, a1.id) H_bf9 h13 fun ch => ?_
 refine go ?_;intros
 refine w_cond rfl (fun c => ?_) (fun c => ?_)
 ·replace h := itt h c
  try rw [c]
  refine go ?_;intros
  refine r_frz ?_
  obtain ⟨x14, h15, h⟩ := bnd h
  refine go ?_;intros
  refine c_call (c := c_bb9) (a1) H_bb9 h15 fun ch => ?_
  refine go ?_;intros
  refine c_fz ?_
  obtain ⟨x20, h21, h⟩ := bnd h
  refine go ?_;intros
  refine r_ire (xs := x8) rfl rfl h21 rfl ?_
  refine go ?_;intros
  refine c_ste (f := (eFeat false)) x8 x14 (idx_get h21).2 ?_
  refine go ?_;intros
  cases h
  exact r_end
 replace h := itf h c
 try rw [c]
 refine go ?_;intros
 refine w_cond rfl (fun c => ?_) (fun c => ?_)
 ·replace h := itt h (by first | exact c | (have c2 := c; simp only [List.length_map] at c2; exact c2))
  try rw [c]
  refine go ?_;intros
  cases h
  exact r_end
 replace h := itf h (by first | exact c | (have c2 := c; simp only [List.length_map] at c2; exact c2))
 try rw [c]
 refine go ?_;intros
 refine r_frz ?_
 refine go ?_;intros
 refine c_fz ?_
 obtain ⟨h26, h⟩ := gd h
 refine go ?_;intros
 refine r_app (f := (eFeat false)) (xs := x8) (ys := ([a1] : (List Feat))) rfl (src_mv rfl rfl (by first | rfl | simp)) rfl rfl (by first | rfl | simp) h26 fun b24 c25 => ?_
 obtain ⟨x27, h28, h⟩ := bnd h
 refine go ?_;intros
 have L28 := l_ck9 h28; (try dsimp only at L28); refine c_callg (c := c_ck9) ((x8 ++ ([a1] : (List Feat)))) H_ck9 h28 fun ch => ?_
 refine go ?_;intros
 refine r_pfz ?_
 obtain ⟨x29, h30, h⟩ := bnd h
 refine go ?_;intros
 refine c_call (c := c_be9) (x27) H_be9 h30 fun ch => ?_
 refine go ?_;intros
 refine r_pz (f := eFeat true) (g := eFeat false) (pf_Feat _) rfl rfl ?_
 refine go ?_;intros
 cases h
 exact r_end
theorem d_ae9 {G : Gam} (H_aj9 : Has G c_aj9) (H_av9 : Has G c_av9) (H_az9 : Has G c_az9) (H_bc9 : Has G c_bc9) (H_ao9 : Has G c_ao9) (H_ay9 : Has G c_ay9) (H_ar9 : Has G c_ar9) (a0 : Repo) (a1 : Str) (a2 : (List Feat)) (a3 : Str) (r : (Repo × Int)) (h : gf_ae9 a0 a1 a2 a3 = some r) : Does G if_ae9 ks_ae9 (c_ae9.args (a0, a1, a2, a3)) [] (c_ae9.ans (a0, a1, a2, a3) r) := by
 refine does_pn (L := [(0, .agg [.ro (List.map (eCommit false) a0.commits), .ro (List.map eHead a0.heads)]), (1, .v (.string a1)), (2, .ro (List.map (eFeat false) a2)), (3, .v (.string a3))]) (fun bs => pin) fun bs t o => ?_
 show vwp _ ib_ae9 _ _
 unfold ib_ae9
 refine w_ir ?_
 unfold gf_ae9 at h
 obtain ⟨x3, h4, h⟩ := bnd h
 refine go ?_;intros
 refine c_call (c := c_aj9) (a0) H_aj9 h4 fun ch => ?_
 refine go ?_;intros
 refine s_split rfl (fun c => ?_) (fun c => ?_)
 ·replace h := itt h c
  rw [c]
  refine go ?_;intros
  cases h
  exact r_end
 replace h := itf h c
 rw [c]
 obtain ⟨x5, h6, h⟩ := bnd h
 refine go ?_;intros
 refine c_call (c := c_av9) (a2) H_av9 h6 fun ch => ?_
 refine go ?_;intros
 refine s_split rfl (fun c => ?_) (fun c => ?_)
 ·replace h := itt h c
  rw [c]
  refine go ?_;intros
  cases h
  exact r_end
 replace h := itf h c
 rw [c]
 obtain ⟨x7, h8, h⟩ := bnd h
 refine go ?_;intros
 refine c_call (c := c_az9) (a3) H_az9 h8 fun ch => ?_
 refine go ?_;intros
 refine w_cond rfl (fun c => ?_) (fun c => ?_)
 ·replace h := itt h c
  try rw [c]
  refine go ?_;intros
  cases h
  exact r_end
 replace h := itf h c
 try rw [c]
 obtain ⟨q9, h49, h⟩ := bnd h
 refine go ?_;intros
 refine w_cut (fun t o => ∃ b17 b18 c19 b20 c21 b22 b24 c25 b27 c28 b29, Pin t (ovr [(1, .v (.string a1)), (2, .ro (List.map (eFeat false) a2)), (3, .v (.string a3)), (4, .ptr 32 b17 210 0 0), (8, .ptr 64 b22 210 0 0), (10, .ptr 80 b29 210 0 0)] t) ∧ PinH o (ovh [(32, ⟨b17, 1, 210, true, [[.sl false 3 (List.map (eCommit false) a0.commits), .sl false 2 (List.map eHead a0.heads)]]⟩), (1001024, ent b18 c19 115 (List.map (eCommit true) [])), (1001025, ent b20 c21 130 (List.map eHead [])), (64, ⟨b22, 1, 210, true, [[.al 1001024 b18 c19 0 ([] : List Commit).length 115, .al 1001025 b20 c21 0 ([] : List Head).length 130]]⟩), (1001280, ent b24 c25 115 (List.map (eCommit true) q9.1)), (1001281, ent b27 c28 130 (List.map eHead q9.2)), (80, ⟨b29, 1, 210, true, [[.al 1001280 b24 c25 0 q9.1.length 115, .al 1001281 b27 c28 0 q9.2.length 130]]⟩)] o)) ?_ ?_
 ·obtain ⟨x10, h11, h49⟩ := bnd h49
  refine go ?_;intros
  refine c_call (c := c_bc9) (a0) H_bc9 h11 fun ch => ?_
  refine go ?_;intros
  cases h49
  exact k_cn ⟨_, _, _, _, _, _, _, _, _, _, _, pin, pinh⟩
 rintro t o ⟨b17, b18, c19, b20, c21, b22, b24, c25, b27, c28, b29, pq1, pq2⟩
 refine pinned pq1 pq2 ?_
 obtain ⟨x30, h31, h⟩ := bnd h
 refine go ?_;intros
 refine c_call (c := c_ao9) (a0, a1) H_ao9 h31 fun ch => ?_
 refine go ?_;intros
 refine w_cond rfl (fun c => ?_) (fun c => ?_)
 ·replace h := itt h c
  try rw [c]
  refine go ?_;intros
  cases h
  exact r_end
 replace h := itf h c
 try rw [c]
 obtain ⟨x32, h33, h⟩ := bnd h
 refine go ?_;intros
 refine r_iro rfl rfl h33 rfl ?_
 obtain ⟨x34, h35, h⟩ := bnd h
 refine go ?_;intros
 refine r_iro rfl rfl h35 rfl ?_
 obtain ⟨x36, h37, h⟩ := bnd h
 refine go ?_;intros
 refine c_call (c := c_ay9) (x34.sheet, a2) H_ay9 h37 fun ch => ?_
 refine go ?_;intros
 refine w_cond rfl (fun c => ?_) (fun c => ?_)
 ·replace h := itt h c
  try rw [c]
  refine go ?_;intros
  cases h
  exact r_end
 replace h := itf h c
 try rw [c]
 obtain ⟨x39, h40, h⟩ := bnd h
 refine go ?_;intros
 refine c_callg (c := c_ar9) ((⟨q9.1, q9.2⟩ : Repo), x30, (⟨[x32.at_], a2, a3⟩ : Commit)) H_ar9 h40 fun ch => ?_
 refine go ?_;intros
 refine w_cond rfl (fun c => ?_) (fun c => ?_)
 ·replace h := itt h c
  try rw [c]
  refine go ?_;intros
  simp only [List.length_map]
  refine go ?_;intros
  cases h
  exact r_end
 replace h := itf h c
 try rw [c]
 refine go ?_;intros
 simp only [List.length_map]
 refine go ?_;intros
 cases h
 exact r_end
theorem d_cp9 {G : Gam} (H_ct9 : Has G c_ct9) (H_dj9 : Has G c_dj9) (H_dd9 : Has G c_dd9) (a0 : (List UInt8)) (g0 : Option Addr) (g1 : Nat) (r : ((List Feat) × Feat)) (h : gf_cp9 a0 = some r) : Does G if_cp9 ks_cp9 (c_cp9.args (a0, g0, g1)) [] (c_cp9.ans (a0, g0, g1) r) := by
 refine does_pn (L := [(0, .raw g0 g1 (List.map eU8 a0))]) (fun bs => pin) fun bs t o => ?_
 show vwp _ ib_cp9 _ _
 unfold ib_cp9
 refine w_ir ?_
 unfold gf_cp9 at h
 obtain ⟨x2, h3, h⟩ := bnd h
 refine go ?_;intros
 refine c_call (c := c_ct9) (a0, g0, g1) H_ct9 h3 fun ch => ?_
 obtain ⟨x5, h6, h⟩ := bnd h
 refine go ?_;intros
 refine c_callg (c := c_dj9) (x2, g0, g1) H_dj9 h6 fun ch => ?_
 obtain ⟨x9, h10, h⟩ := bnd h
 refine go ?_;intros
 refine c_callg (c := c_dd9) ((⟨x2.b, x5.2⟩ : Rd), g0, g1) H_dd9 h10 fun ch => ?_
 refine go ?_;intros
 cases h
 exact r_end
theorem d_bl9 {G : Gam} (H_ai9 : Has G c_ai9) (H_cq9 : Has G c_cq9) (H_al9 : Has G c_al9) (H_cp9 : Has G c_cp9) (H_aw9 : Has G c_aw9) (H_ae9 : Has G c_ae9) (H_af9 : Has G c_af9) (H_ak9 : Has G c_ak9) (H_ag9 : Has G c_ag9) (a0 : (List UInt8)) (g0 : Option Addr) (g1 : Nat) (r : Bool) (h : gf_bl9 a0 = some r) : Does G if_bl9 ks_bl9 (c_bl9.args (a0, g0, g1)) [] (c_bl9.ans (a0, g0, g1) r) := by
 refine does_pn (L := [(0, .raw g0 g1 (List.map eU8 a0))]) (fun bs => pin) fun bs t o => ?_
 show vwp _ ib_bl9 _ _
 unfold ib_bl9
 refine w_ir ?_
 unfold gf_bl9 at h
 refine go ?_;intros
 refine w_cond rfl (fun c => ?_) (fun c => ?_)
 ·replace h := itt h (by first | exact c | (have c2 := c; simp only [List.length_map] at c2; exact c2))
  try rw [c]
  refine go ?_;intros
  cases h
  exact r_end
 replace h := itf h (by first | exact c | (have c2 := c; simp only [List.length_map] at c2; exact c2))
 try rw [c]
 obtain ⟨x1, h2, h⟩ := bnd h
 refine go ?_;intros
 refine c_call (c := c_ai9) ((⟨#[109, 97, 105, 110]⟩ : Str)) H_ai9 h2 fun ch => ?_
 obtain ⟨x8, h9, h⟩ := bnd h
 refine go ?_;intros
 refine c_call (c := c_cq9) ((⟨#[109, 97, 105, 110]⟩ : Str)) H_cq9 h9 fun ch => ?_
 refine go ?_;intros
 refine s_split rfl (fun c => ?_) (fun c => ?_)
 ·replace h := itt h c
  rw [c]
  refine go ?_;intros
  cases h
  exact r_end
 replace h := itf h c
 rw [c]
 refine go ?_;intros
 refine s_split rfl (fun c => ?_) (fun c => ?_)
 ·replace h := itt h c
  rw [c]
  refine go ?_;intros
  cases h
  exact r_end
 replace h := itf h c
 rw [c]
 obtain ⟨x15, h16, h⟩ := bnd h
 refine go ?_;intros
 refine c_call (c := c_al9) (x1.1, x8.1) H_al9 h16 fun ch => ?_
 refine go ?_;intros
 refine w_cond rfl (fun c => ?_) (fun c => ?_)
 ·replace h := itt h c
  try rw [c]
  refine go ?_;intros
  cases h
  exact r_end
 replace h := itf h c
 try rw [c]
 obtain ⟨q142, h261, h⟩ := bnd h
 refine go ?_;intros
 refine w_last (fun t o => ∃ b192 c193 b195 c196 b197, Pin t (ovr [(3, .ptr 24 b197 210 0 0), (7, .v (.int .i64 q142.1))] t) ∧ PinH o (ovh [(1000384, ent b192 c193 115 (List.map (eCommit true) q142.2.1)), (1000385, ent b195 c196 130 (List.map eHead q142.2.2)), (24, ⟨b197, 1, 210, true, [[.al 1000384 b192 c193 0 q142.2.1.length 115, .al 1000385 b195 c196 0 q142.2.2.length 130]]⟩)] o)) ?_ ?_
 ·refine w_loop2 (fun n t o => ∃ n152 v143 v144 v145 v148 b146 c147 b149 c150 b151, gl_bl9_1 a0 n152 v143 v144 v145 v148 = some q142 ∧ n152 = n ∧ Pin t (ovr [(0, .raw g0 g1 (List.map eU8 a0)), (3, .ptr 24 b151 210 0 0), (7, .v (.int .i64 v143)), (8, .v (.int .i64 v144))] t) ∧ PinH o (ovh [(1000384, ent b146 c147 115 (List.map (eCommit true) v145)), (1000385, ent b149 c150 130 (List.map eHead v148)), (24, ⟨b151, 1, 210, true, [[.al 1000384 b146 c147 0 v145.length 115, .al 1000385 b149 c150 0 v148.length 130]]⟩)] o)) _ ⟨_, _, _, _, _, _, _, _, _, _, h261, rfl, pin, pinh⟩ ?_
  rintro n t o ⟨n152, v143, v144, v145, v148, b146, c147, b149, c150, b151, h261, rfl, pq1, pq2⟩
  refine pinned pq1 pq2 ?_
  cases n152 with
  | zero => rw [gl_bl9_1] at h261; cases h261
  | succ n152 =>
   rw [gl_bl9_1] at h261
   refine go ?_;intros
   refine w_cond rfl (fun c => ?_) (fun c => ?_)
   ·replace h261 := itt h261 c
    try rw [c]
    obtain ⟨q157, h262, h261⟩ := bnd h261
    refine go ?_;intros
    refine w_cut (fun t o => ∃ b165 c166 b167 c168 b169 b163 c164, Pin t (ovr [(0, .raw g0 g1 (List.map eU8 a0)), (3, .ptr 24 b169 210 0 0), (7, .v (.int .i64 v143)), (8, .v (.int .i64 v144)), (9, .raw b163 c164 (List.map eU8 q157))] t) ∧ PinH o (ovh [(1000384, ent b165 c166 115 (List.map (eCommit true) v145)), (1000385, ent b167 c168 130 (List.map eHead v148)), (24, ⟨b169, 1, 210, true, [[.al 1000384 b165 c166 0 v145.length 115, .al 1000385 b167 c168 0 v148.length 130]]⟩)] o)) ?_ ?_
    ·refine go ?_;intros
     refine w_cond rfl (fun c => ?_) (fun c => ?_)
     ·replace h262 := itt h262 (by first | exact c | (have c2 := c; simp only [List.length_map] at c2; exact c2))
      try rw [c]
      obtain ⟨x160, h161, h262⟩ := bnd h262
      refine go ?_;intros
      refine r_slsrl (f := eU8) rfl rfl rfl h161 (fun _ => rfl) fun b158 c159 => ?_
      refine go ?_;intros
      cases h262
      exact k_cn ⟨_, _, _, _, _, _, _, pin, pinh⟩
     replace h262 := itf h262 (by first | exact c | (have c2 := c; simp only [List.length_map] at c2; exact c2))
     try rw [c]
     refine go ?_;intros
     cases h262
     exact k_cn ⟨_, _, _, _, _, _, _, pin, pinh⟩
    rintro t o ⟨b165, c166, b167, c168, b169, b163, c164, pq1, pq2⟩
    refine pinned pq1 pq2 ?_
    refine go ?_;intros
    refine r_frz ?_
    obtain ⟨x170, h171, h261⟩ := bnd h261
    refine go ?_;intros
    refine c_call (c := c_cp9) (q157, b163, c164) H_cp9 h171 fun ch => ?_
    refine go ?_;intros
    refine c_fz ?_
    obtain ⟨x179, h180, h261⟩ := bnd h261
    refine go ?_;intros
    refine c_call (c := c_aw9) (x170.1, x170.2) H_aw9 h180 fun ch => ?_
    refine go ?_;intros
    refine w_cond rfl (fun c => ?_) (fun c => ?_)
    ·replace h261 := itt h261 c
     try rw [c]
     refine go ?_;intros
     exact k_ln2 _ (Nat.lt_succ_self _) ⟨_, _, _, _, _, _, _, _, _, _, h261, rfl, pin, pinh⟩
    replace h261 := itf h261 c
    try rw [c]
    obtain ⟨x183, h184, h261⟩ := bnd h261
    refine go ?_;intros
    refine c_call (c := c_ae9) ((⟨v145, v148⟩ : Repo), (⟨#[109, 97, 105, 110]⟩ : Str), x179.1, (⟨#[97, 110, 110]⟩ : Str)) H_ae9 h184 fun ch => ?_
    refine go ?_;intros
    refine w_cond rfl (fun c => ?_) (fun c => ?_)
    ·replace h261 := itt h261 c
     try rw [c]
     refine go ?_;intros
     exact k_ln2 _ (Nat.lt_succ_self _) ⟨_, _, _, _, _, _, _, _, _, _, h261, rfl, pin, pinh⟩
    replace h261 := itf h261 c
    try rw [c]
    refine go ?_;intros
    exact k_ln2 _ (Nat.lt_succ_self _) ⟨_, _, _, _, _, _, _, _, _, _, h261, rfl, pin, pinh⟩
   replace h261 := itf h261 c
   try rw [c]
   refine go ?_;intros
   cases h261
   exact k_cn ⟨_, _, _, _, _, pin, pinh⟩
 rintro t o ⟨b192, c193, b195, c196, b197, pq1, pq2⟩
 refine pinnedQ pq1 pq2 ?_
 obtain ⟨x198, h199, h⟩ := bnd h
 refine go ?_;intros
 refine c_call (c := c_af9) ((⟨q142.2.1, q142.2.2⟩ : Repo), (⟨#[109, 97, 105, 110]⟩ : Str)) H_af9 h199 fun ch => ?_
 obtain ⟨x200, h201, h⟩ := bnd h
 refine go ?_;intros
 refine c_call (c := c_ak9) ((⟨q142.2.1, q142.2.2⟩ : Repo), x198) H_ak9 h201 fun ch => ?_
 refine go ?_;intros
 refine s_split rfl (fun c => ?_) (fun c => ?_)
 ·replace h := itt h (by first | exact c | (have c2 := c; simp only [List.length_map] at c2; exact c2))
  rw [c]
  refine go ?_;intros
  cases h
  exact r_end
 replace h := itf h (by first | exact c | (have c2 := c; simp only [List.length_map] at c2; exact c2))
 rw [c]
 refine go ?_;intros
 refine w_cond rfl (fun c => ?_) (fun c => ?_)
 ·replace h := itt h (by first | exact c | (have c2 := c; simp only [List.length_map] at c2; exact c2))
  try rw [c]
  refine go ?_;intros
  cases h
  exact r_end
 replace h := itf h (by first | exact c | (have c2 := c; simp only [List.length_map] at c2; exact c2))
 try rw [c]
 obtain ⟨q243, h263, h⟩ := bnd h
 refine go ?_;intros
 refine w_last (fun t o => ∃ q243_, q243 = .inr q243_ ∧ Pin t (ovr [] t) ∧ PinH o (ovh [] o)) ?_ ?_
 ·refine w_loop2 (fun n t o => ∃ n252 v244 b245 c246 b247 c248 b249 b250 c251, gl_bl9_2 q142 x200 n252 v244 = some q243 ∧ n252 = n ∧ Pin t (ovr [(3, .ptr 24 b249 210 0 0), (7, .v (.int .i64 q142.1)), (16, .ref 648 b250 c251 0 x200.length 17), (17, .v (.int .i64 v244))] t) ∧ PinH o (ovh [(1000384, ent b245 c246 115 (List.map (eCommit true) q142.2.1)), (1000385, ent b247 c248 130 (List.map eHead q142.2.2)), (24, ⟨b249, 1, 210, true, [[.al 1000384 b245 c246 0 q142.2.1.length 115, .al 1000385 b247 c248 0 q142.2.2.length 130]]⟩), (648, ent b250 c251 17 (List.map eInt x200))] o)) _ ⟨_, _, _, _, _, _, _, _, _, h263, rfl, pin, pinh⟩ ?_
  rintro n t o ⟨n252, v244, b245, c246, b247, c248, b249, b250, c251, h263, rfl, pq1, pq2⟩
  refine pinned pq1 pq2 ?_
  cases n252 with
  | zero => rw [gl_bl9_2] at h263; cases h263
  | succ n252 =>
   rw [gl_bl9_2] at h263
   refine go ?_;intros
   refine w_cond rfl (fun c => ?_) (fun c => ?_)
   ·replace h263 := itt h263 c
    try rw [c]
    obtain ⟨x253, h254, h263⟩ := bnd h263
    refine go ?_;intros
    refine r_ire (xs := x200) rfl rfl h254 rfl ?_
    refine go ?_;intros
    refine r_lde (f := eInt) (xs := x200) (x := x253) rfl rfl (idx_get h254).2 rfl rfl rfl ?_
    refine go ?_;intros
    refine w_cond rfl (fun c => ?_) (fun c => ?_)
    ·replace h263 := itt h263 c
     try rw [c]
     refine go ?_;intros
     cases h263
     replace h : some _ = some _ := h
     cases h
     exact r_end
    replace h263 := itf h263 c
    try rw [c]
    obtain ⟨x255, h256, h263⟩ := bnd h263
    refine go ?_;intros
    refine c_call (c := c_ag9) ((⟨q142.2.1, q142.2.2⟩ : Repo), v244, (IntKind.i64.wrap (q142.1 - 1))) H_ag9 h256 fun ch => ?_
    refine go ?_;intros
    refine s_split rfl (fun c => ?_) (fun c => ?_)
    ·replace h263 := itt h263 (by first | exact c | (have c2 := c; simp only [List.length_map] at c2; exact c2))
     rw [c]
     refine go ?_;intros
     cases h263
     replace h : some _ = some _ := h
     cases h
     exact r_end
    replace h263 := itf h263 (by first | exact c | (have c2 := c; simp only [List.length_map] at c2; exact c2))
    rw [c]
    obtain ⟨x259, h260, h263⟩ := bnd h263
    refine go ?_;intros
    refine r_ire (xs := x255) rfl rfl h260 rfl ?_
    refine go ?_;intros
    refine r_lde (f := eInt) (xs := x255) (x := x259) rfl rfl (idx_get h260).2 rfl rfl rfl ?_
    refine go ?_;intros
    refine w_cond rfl (fun c => ?_) (fun c => ?_)
    ·replace h263 := itt h263 c
     try rw [c]
     refine go ?_;intros
     cases h263
     replace h : some _ = some _ := h
     cases h
     exact r_end
    replace h263 := itf h263 c
    try rw [c]
    refine go ?_;intros
    exact k_ln2 _ (Nat.lt_succ_self _) ⟨_, _, _, _, _, _, _, _, _, h263, rfl, pin, pinh⟩
   replace h263 := itf h263 c
   try rw [c]
   refine go ?_;intros
   cases h263
   exact k_cn ⟨_, rfl, pin, pinh⟩
 rintro t o ⟨q243, rfl, pq1, pq2⟩
 refine pinnedQ pq1 pq2 ?_
 refine go ?_;intros
 cases h
 exact r_end
end Go.Proofs.AM
