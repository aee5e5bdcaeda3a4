/- A part of the proofs of this seat's statements (UF10): lemmas on an abstract machine for the program's functions. Conditions: none. -/
import Derived.Test.YtggnnoghnkcmpaaUD
set_option linter.unusedVariables false
set_option maxRecDepth 100000
set_option maxHeartbeats 4000000
namespace Go.Proofs.AM
attribute [local irreducible] vwp vstps vstpLs vstp vdo vret kseq kblk kloop kend kcut kloop2 frzV renV shutK
theorem d_impl_Repo_past {G : Gam}  (a0 : Repo) (a1 : Int) (r : (List Bool)) (h : gf_impl_Repo_past a0 a1 = some r) : Does G if_impl_Repo_past ks_impl_Repo_past (c_impl_Repo_past.args (a0, a1)) [] (c_impl_Repo_past.ans (a0, a1) r) := by
  refine does_pn (L := [(0, .agg [.ro (List.map (eCommit false) a0.commits), .ro (List.map eHead a0.heads)]), (1, .v (.int .i64 a1))]) (fun bs => pin) fun bs t o => ?_
  show vwp _ ib_impl_Repo_past _ _
  unfold ib_impl_Repo_past
  unfold gf_impl_Repo_past at h
  obtain ⟨h4, h⟩ := gd h
  refine go ?_; intros
  refine r_mks (f := eBool) (x := false) rfl rfl (band1 h4) (band2 h4) rfl fun b2 => ?_
  obtain ⟨x5, h6, h⟩ := bnd h
  refine go ?_; intros
  refine r_ire (xs := (List.replicate ((a0.commits.length : Int)).toNat false)) rfl rfl h6 rfl ?_
  refine go ?_; intros
  refine c_ste (f := eBool) (List.replicate ((a0.commits.length : Int)).toNat false) true (idx_get h6).2 ?_
  obtain ⟨q150, h205, h⟩ := bnd h
  refine go ?_; intros
  refine w_last (fun t o => ∃ b203 c204, Pin t (ovr [(5, .ref 96 b203 c204 0 q150.length 33)] t) ∧ PinH o (ovh [(96, ent b203 c204 33 (List.map eBool q150))] o)) ?_ ?_
  · refine w_loop2 (fun n t o => ∃ n156 v151 v153 b152 b154 c155, gl_impl_Repo_past_4 a0 n156 v151 v153 = some q150 ∧ n156 = n ∧ Pin t (ovr [(2, .ptr 16 b152 210 0 0), (5, .ref 96 b154 c155 0 v153.length 33), (6, .v (.int .i64 v151))] t) ∧ PinH o (ovh [(16, ⟨b152, 1, 210, true, [[.sl false 3 (List.map (eCommit false) a0.commits), .sl false 2 (List.map eHead a0.heads)]]⟩), (96, ent b154 c155 33 (List.map eBool v153))] o)) _ ⟨_, _, _, _, _, _, h205, rfl, pin, pinh⟩ ?_
    rintro n t o ⟨n156, v151, v153, b152, b154, c155, h205, rfl, q1, q2⟩
    refine pinned q1 q2 ?_
    cases n156 with
    | zero => rw [gl_impl_Repo_past_4] at h205; cases h205
    | succ n156 =>
      rw [gl_impl_Repo_past_4] at h205
      refine go ?_; intros
      refine w_cond rfl (fun c => ?_) (fun c => ?_)
      · replace h205 := itt h205 c
        try rw [c]
        obtain ⟨x157, h158, h205⟩ := bnd h205
        refine go ?_; intros
        refine r_ire (xs := v153) rfl rfl h158 rfl ?_
        refine go ?_; intros
        refine r_lde (f := eBool) (xs := v153) (x := x157) rfl rfl (idx_get h158).2 rfl rfl rfl ?_
        refine go ?_; intros
        refine w_cond rfl (fun c => ?_) (fun c => ?_)
        · replace h205 := itt h205 c
          try rw [c]
          obtain ⟨x159, h160, h205⟩ := bnd h205
          refine go ?_; intros
          refine r_iro rfl rfl h160 rfl ?_
          obtain ⟨hf195, h205⟩ := gd h205
          obtain ⟨q181, h206, h205⟩ := bnd h205
          refine go ?_; intros
          refine w_last (fun t o => ∃ b198 b200 c201, Pin t (ovr [(2, .ptr 16 b198 210 0 0), (5, .ref 96 b200 c201 0 q181.length 33), (6, .v (.int .i64 v151))] t) ∧ PinH o (ovh [(16, ⟨b198, 1, 210, true, [[.sl false 3 (List.map (eCommit false) a0.commits), .sl false 2 (List.map eHead a0.heads)]]⟩), (96, ent b200 c201 33 (List.map eBool q181))] o)) ?_ ?_
          · refine w_loop2 (fun n t o => ∃ l189 k187 v184 b183 b185 c186, gl_impl_Repo_past_5 l189 k187 v184 = some q181 ∧ n = l189.length ∧ (x159.up).drop k187 = l189 ∧ Pin t (ovr [(2, .ptr 16 b183 210 0 0), (5, .ref 96 b185 c186 0 v184.length 33), (6, .v (.int .i64 v151)), (30, .ro (List.map eInt x159.up)), (31, .v (.int .i64 (x159.up.length : Int))), (32, .v (.int .i64 (k187 : Int)))] t) ∧ PinH o (ovh [(16, ⟨b183, 1, 210, true, [[.sl false 3 (List.map (eCommit false) a0.commits), .sl false 2 (List.map eHead a0.heads)]]⟩), (96, ent b185 c186 33 (List.map eBool v184))] o)) _ ⟨_, _, _, _, _, _, h206, rfl, rfl, pin, pinh⟩ ?_
            rintro n t o ⟨l189, k187, v184, b183, b185, c186, h206, rfl, hd190, q1, q2⟩
            refine pinned q1 q2 ?_
            cases l189 with
            | nil =>
              have hge192 := drop_ge hd190
              rw [gl_impl_Repo_past_5] at h206
              refine go ?_; intros
              rw [hge192]
              refine go ?_; intros
              cases h206
              exact k_cn ⟨_, _, _, pin, pinh⟩
            | cons x188 l189 =>
              have hlt191 := drop_lt hd190
              have hx193 := drop_ix hd190
              have hw194 := drop_wr hd190 hf195
              rw [gl_impl_Repo_past_5] at h206
              refine go ?_; intros
              rw [hlt191]
              refine go ?_; intros
              refine r_iro rfl rfl hx193 rfl ?_
              obtain ⟨x196, h197, h206⟩ := bnd h206
              refine go ?_; intros
              refine r_ire (xs := v184) rfl rfl h197 rfl ?_
              refine go ?_; intros
              refine c_ste (f := eBool) v184 true (idx_get h197).2 ?_
              refine go ?_; intros
              rw [hw194]
              exact k_ln2 _ (Nat.lt_succ_self _) ⟨_, _, _, _, _, _, h206, rfl, drop_next hd190, pin, pinh⟩
          rintro t o ⟨b198, b200, c201, q1, q2⟩
          refine pinnedQ q1 q2 ?_
          refine go ?_; intros
          exact k_ln2 _ (Nat.lt_succ_self _) ⟨_, _, _, _, _, _, h205, rfl, pin, pinh⟩
        replace h205 := itf h205 c
        try rw [c]
        refine go ?_; intros
        exact k_ln2 _ (Nat.lt_succ_self _) ⟨_, _, _, _, _, _, h205, rfl, pin, pinh⟩
      replace h205 := itf h205 c
      try rw [c]
      refine go ?_; intros
      cases h205
      exact k_cn ⟨_, _, pin, pinh⟩
  rintro t o ⟨b203, c204, q1, q2⟩
  refine pinnedQ q1 q2 ?_
  refine go ?_; intros
  cases h
  exact r_end
theorem d_impl_RepoBases_1 {G : Gam} (H_impl_Repo_past : Has G c_impl_Repo_past) (a0 : Int) (a1 : Repo) (a2 : Int) (r : Bool) (h : gf_impl_RepoBases_1 a0 a1 a2 = some r) : Does G if_impl_RepoBases_1 ks_impl_RepoBases_1 (c_impl_RepoBases_1.args (a0, a1, a2)) [] (c_impl_RepoBases_1.ans (a0, a1, a2) r) := by
  refine does_pn (L := [(0, .v (.int .i64 a0)), (1, .rptr [.sl false 3 (List.map (eCommit false) a1.commits), .sl false 2 (List.map eHead a1.heads)]), (2, .rptr [.v (.int .i64 a2)])]) (fun bs => pin) fun bs t o => ?_
  show vwp _ ib_impl_RepoBases_1 _ _
  unfold ib_impl_RepoBases_1
  unfold gf_impl_RepoBases_1 at h
  obtain ⟨x1, h2, h⟩ := bnd h
  refine go ?_; intros
  refine c_call (c := c_impl_Repo_past) (a1, a0) H_impl_Repo_past h2 fun ch => ?_
  obtain ⟨x5, h6, h⟩ := bnd h
  refine go ?_; intros
  refine r_ire (xs := x1) rfl rfl h6 rfl ?_
  refine go ?_; intros
  refine r_lde (f := eBool) (xs := x1) (x := x5) rfl rfl (idx_get h6).2 rfl rfl rfl ?_
  refine go ?_; intros
  cases h
  exact r_end
theorem d_slices_IndexFunc_int_int__impl_RepoBases_1 {G : Gam} (H_impl_RepoBases_1 : Has G c_impl_RepoBases_1) (a0 : (List Int)) (a1 : Repo) (a2 : Int) (r : Int) (h : gf_slices_IndexFunc_int_int__impl_RepoBases_1 a0 a1 a2 = some r) : Does G if_slices_IndexFunc_int_int ks_slices_IndexFunc_int_int (c_slices_IndexFunc_int_int__impl_RepoBases_1.args (a0, a1, a2)) [] (c_slices_IndexFunc_int_int__impl_RepoBases_1.ans (a0, a1, a2) r) := by
  refine does_pn (L := [(0, .ro (List.map eInt a0)), (1, .fn 98 [.rptr [.sl false 3 (List.map (eCommit false) a1.commits), .sl false 2 (List.map eHead a1.heads)], .rptr [.v (.int .i64 a2)]])]) (fun bs => pin) fun bs t o => ?_
  show vwp _ ib_slices_IndexFunc_int_int _ _
  unfold ib_slices_IndexFunc_int_int
  unfold gf_slices_IndexFunc_int_int__impl_RepoBases_1 at h
  obtain ⟨hf24, h⟩ := gd h
  obtain ⟨q14, h27, h⟩ := bnd h
  refine go ?_; intros
  refine w_last (fun t o => ∃ q14_, q14 = .inr q14_ ∧ Pin t (ovr [] t) ∧ PinH o (ovh [] o)) ?_ ?_
  · refine w_loop2 (fun n t o => ∃ l18 k16  , gl_slices_IndexFunc_int_int__impl_RepoBases_1_1 a1 a2 l18 k16  = some q14 ∧ n = l18.length ∧ (a0).drop k16 = l18 ∧ Pin t (ovr [(0, .ro (List.map eInt a0)), (1, .fn 98 [.rptr [.sl false 3 (List.map (eCommit false) a1.commits), .sl false 2 (List.map eHead a1.heads)], .rptr [.v (.int .i64 a2)]]), (7, .v (.int .i64 (a0.length : Int))), (8, .v (.int .i64 (k16 : Int)))] t) ∧ PinH o (ovh [] o)) _ ⟨_, _, h27, rfl, rfl, pin, pinh⟩ ?_
    rintro n t o ⟨l18, k16, h27, rfl, hd19, q1, q2⟩
    refine pinned q1 q2 ?_
    cases l18 with
    | nil =>
      have hge21 := drop_ge hd19
      rw [gl_slices_IndexFunc_int_int__impl_RepoBases_1_1] at h27
      refine go ?_; intros
      rw [hge21]
      refine go ?_; intros
      cases h27
      exact k_cn ⟨_, rfl, pin, pinh⟩
    | cons x17 l18 =>
      have hlt20 := drop_lt hd19
      have hx22 := drop_ix hd19
      have hw23 := drop_wr hd19 hf24
      rw [gl_slices_IndexFunc_int_int__impl_RepoBases_1_1] at h27
      refine go ?_; intros
      rw [hlt20]
      refine go ?_; intros
      refine r_iro rfl rfl hx22 rfl ?_
      obtain ⟨x25, h26, h27⟩ := bnd h27
      refine go ?_; intros
      refine c_calld (c := c_impl_RepoBases_1) (x17, a1, a2) H_impl_RepoBases_1 h26 fun ch => ?_
      refine go ?_; intros
      refine w_cond rfl (fun c => ?_) (fun c => ?_)
      · replace h27 := itt h27 c
        try rw [c]
        refine go ?_; intros
        cases h27
        replace h : some _ = some _ := h
        cases h
        exact r_end
      replace h27 := itf h27 c
      try rw [c]
      refine go ?_; intros
      rw [hw23]
      exact k_ln2 _ (Nat.lt_succ_self _) ⟨_, _, h27, rfl, drop_next hd19, pin, pinh⟩
  rintro t o ⟨q14, rfl, q1, q2⟩
  refine pinnedQ q1 q2 ?_
  refine go ?_; intros
  cases h
  exact r_end
theorem d_slices_ContainsFunc_int_int__impl_RepoBases_1 {G : Gam} (H_slices_IndexFunc_int_int__impl_RepoBases_1 : Has G c_slices_IndexFunc_int_int__impl_RepoBases_1) (a0 : (List Int)) (a1 : Repo) (a2 : Int) (r : Bool) (h : gf_slices_ContainsFunc_int_int__impl_RepoBases_1 a0 a1 a2 = some r) : Does G if_slices_ContainsFunc_int_int ks_slices_ContainsFunc_int_int (c_slices_ContainsFunc_int_int__impl_RepoBases_1.args (a0, a1, a2)) [] (c_slices_ContainsFunc_int_int__impl_RepoBases_1.ans (a0, a1, a2) r) := by
  refine does_pn (L := [(0, .ro (List.map eInt a0)), (1, .fn 98 [.rptr [.sl false 3 (List.map (eCommit false) a1.commits), .sl false 2 (List.map eHead a1.heads)], .rptr [.v (.int .i64 a2)]])]) (fun bs => pin) fun bs t o => ?_
  show vwp _ ib_slices_ContainsFunc_int_int _ _
  unfold ib_slices_ContainsFunc_int_int
  unfold gf_slices_ContainsFunc_int_int__impl_RepoBases_1 at h
  obtain ⟨x1, h2, h⟩ := bnd h
  refine go ?_; intros
  refine c_call (c := c_slices_IndexFunc_int_int__impl_RepoBases_1) (a0, a1, a2) H_slices_IndexFunc_int_int__impl_RepoBases_1 h2 fun ch => ?_
  refine go ?_; intros
  cases h
  exact r_end
theorem d_impl_RepoBases {G : Gam} (H_impl_RepoOk : Has G c_impl_RepoOk) (H_impl_Repo_version : Has G c_impl_Repo_version) (H_impl_Repo_past : Has G c_impl_Repo_past) (H_slices_ContainsFunc_int_int__impl_RepoBases_1 : Has G c_slices_ContainsFunc_int_int__impl_RepoBases_1) (a0 : Repo) (a1 : Int) (a2 : Int) (r : (List Int)) (h : gf_impl_RepoBases a0 a1 a2 = some r) : Does G if_impl_RepoBases ks_impl_RepoBases (c_impl_RepoBases.args (a0, a1, a2)) [] (c_impl_RepoBases.ans (a0, a1, a2) r) := by
  refine does_pn (L := [(0, .agg [.ro (List.map (eCommit false) a0.commits), .ro (List.map eHead a0.heads)]), (1, .v (.int .i64 a1)), (2, .v (.int .i64 a2))]) (fun bs => pin) fun bs t o => ?_
  show vwp _ ib_impl_RepoBases _ _
  unfold ib_impl_RepoBases
  unfold gf_impl_RepoBases at h
  obtain ⟨x2, h3, h⟩ := bnd h
  refine go ?_; intros
  refine c_call (c := c_impl_RepoOk) (a0) H_impl_RepoOk h3 fun ch => ?_
  refine go ?_; intros
  refine s_split rfl (fun c => ?_) (fun c => ?_)
  · replace h := itt h c
    rw [c]
    refine go ?_; intros
    cases h
    exact r_end
  replace h := itf h c
  rw [c]
  obtain ⟨x4, h5, h⟩ := bnd h
  refine go ?_; intros
  refine c_call (c := c_impl_Repo_version) (a0, a1) H_impl_Repo_version h5 fun ch => ?_
  refine go ?_; intros
  refine s_split rfl (fun c => ?_) (fun c => ?_)
  · replace h := itt h c
    rw [c]
    refine go ?_; intros
    cases h
    exact r_end
  replace h := itf h c
  rw [c]
  obtain ⟨x6, h7, h⟩ := bnd h
  refine go ?_; intros
  refine c_call (c := c_impl_Repo_version) (a0, a2) H_impl_Repo_version h7 fun ch => ?_
  refine go ?_; intros
  refine w_cond rfl (fun c => ?_) (fun c => ?_)
  · replace h := itt h c
    try rw [c]
    refine go ?_; intros
    cases h
    exact r_end
  replace h := itf h c
  try rw [c]
  obtain ⟨x11, h12, h⟩ := bnd h
  refine go ?_; intros
  refine c_call (c := c_impl_Repo_past) (a0, a1) H_impl_Repo_past h12 fun ch => ?_
  obtain ⟨x15, h16, h⟩ := bnd h
  refine go ?_; intros
  refine c_call (c := c_impl_Repo_past) (a0, a2) H_impl_Repo_past h16 fun ch => ?_
  obtain ⟨q101, h147, h⟩ := bnd h
  refine go ?_; intros
  refine w_last (fun t o => ∃ b145 c146, Pin t (ovr [(9, .ref 264 b145 c146 0 q101.length 17)] t) ∧ PinH o (ovh [(264, ent b145 c146 17 (List.map eInt q101))] o)) ?_ ?_
  · refine w_loop2 (fun n t o => ∃ n112 v107 v110 b102 b103 c104 b105 c106 b108 c109 b111, gl_impl_RepoBases_1 x11 x15 a0 n112 v107 v110 = some q101 ∧ n112 = n ∧ Pin t (ovr [(3, .ptr 24 b102 210 0 0), (7, .ref 232 b103 c104 0 x11.length 33), (8, .ref 256 b105 c106 0 x15.length 33), (9, .ref 264 b108 c109 0 v107.length 17), (10, .ptr 80 b111 17 0 0)] t) ∧ PinH o (ovh [(24, ⟨b102, 1, 210, true, [[.sl false 3 (List.map (eCommit false) a0.commits), .sl false 2 (List.map eHead a0.heads)]]⟩), (232, ent b103 c104 33 (List.map eBool x11)), (256, ent b105 c106 33 (List.map eBool x15)), (264, ent b108 c109 17 (List.map eInt v107)), (80, ⟨b111, 1, 17, true, [[.v (.int .i64 v110)]]⟩)] o)) _ ⟨_, _, _, _, _, _, _, _, _, _, _, h147, rfl, pin, pinh⟩ ?_
    rintro n t o ⟨n112, v107, v110, b102, b103, c104, b105, c106, b108, c109, b111, h147, rfl, q1, q2⟩
    refine pinned q1 q2 ?_
    cases n112 with
    | zero => rw [gl_impl_RepoBases_1] at h147; cases h147
    | succ n112 =>
      rw [gl_impl_RepoBases_1] at h147
      refine go ?_; intros
      refine w_cond rfl (fun c => ?_) (fun c => ?_)
      · replace h147 := itt h147 c
        try rw [c]
        obtain ⟨q123, h148, h147⟩ := bnd h147
        refine go ?_; intros
        refine w_cut (fun t o => ∃ b134 b135 c136 b137 c138 b140 c141 b142, Pin t (ovr [(3, .ptr 24 b134 210 0 0), (7, .ref 232 b135 c136 0 x11.length 33), (8, .ref 256 b137 c138 0 x15.length 33), (9, .ref 264 b140 c141 0 q123.length 17), (10, .ptr 80 b142 17 0 0)] t) ∧ PinH o (ovh [(24, ⟨b134, 1, 210, true, [[.sl false 3 (List.map (eCommit false) a0.commits), .sl false 2 (List.map eHead a0.heads)]]⟩), (232, ent b135 c136 33 (List.map eBool x11)), (256, ent b137 c138 33 (List.map eBool x15)), (264, ent b140 c141 17 (List.map eInt q123)), (80, ⟨b142, 1, 17, true, [[.v (.int .i64 v110)]]⟩)] o)) ?_ ?_
        · obtain ⟨x124, h125, h148⟩ := bnd h148
          refine go ?_; intros
          refine r_ire (xs := x11) rfl rfl h125 rfl ?_
          refine go ?_; intros
          refine r_lde (f := eBool) (xs := x11) (x := x124) rfl rfl (idx_get h125).2 rfl rfl rfl ?_
          refine go ?_; intros
          refine s_split rfl (fun c => ?_) (fun c => ?_)
          · replace h148 := itt h148 c
            rw [c]
            refine go ?_; intros
            cases h148
            exact k_cn ⟨_, _, _, _, _, _, _, _, pin, pinh⟩
          replace h148 := itf h148 c
          rw [c]
          obtain ⟨x126, h127, h148⟩ := bnd h148
          refine go ?_; intros
          refine r_ire (xs := x15) rfl rfl h127 rfl ?_
          refine go ?_; intros
          refine r_lde (f := eBool) (xs := x15) (x := x126) rfl rfl (idx_get h127).2 rfl rfl rfl ?_
          refine go ?_; intros
          refine w_cond rfl (fun c => ?_) (fun c => ?_)
          · replace h148 := itt h148 c
            try rw [c]
            refine go ?_; intros
            cases h148
            exact k_cn ⟨_, _, _, _, _, _, _, _, pin, pinh⟩
          replace h148 := itf h148 c
          try rw [c]
          obtain ⟨x128, h129, h148⟩ := bnd h148
          refine go ?_; intros
          refine c_call (c := c_slices_ContainsFunc_int_int__impl_RepoBases_1) (v107, a0, v110) H_slices_ContainsFunc_int_int__impl_RepoBases_1 h129 fun ch => ?_
          refine go ?_; intros
          refine w_cond rfl (fun c => ?_) (fun c => ?_)
          · replace h148 := itt h148 c
            try rw [c]
            obtain ⟨h133, h148⟩ := gd h148
            refine go ?_; intros
            refine r_app (f := eInt) (xs := v107) (ys := ([v110] : (List Int))) rfl (src_mv rfl rfl (by first | rfl | simp)) rfl rfl (by first | rfl | simp) h133 fun b131 c132 => ?_
            refine go ?_; intros
            cases h148
            exact k_cn ⟨_, _, _, _, _, _, _, _, pin, pinh⟩
          replace h148 := itf h148 c
          try rw [c]
          refine go ?_; intros
          cases h148
          exact k_cn ⟨_, _, _, _, _, _, _, _, pin, pinh⟩
        rintro t o ⟨b134, b135, c136, b137, c138, b140, c141, b142, q1, q2⟩
        refine pinned q1 q2 ?_
        refine go ?_; intros
        exact k_ln2 _ (Nat.lt_succ_self _) ⟨_, _, _, _, _, _, _, _, _, _, _, h147, rfl, pin, pinh⟩
      replace h147 := itf h147 c
      try rw [c]
      refine go ?_; intros
      cases h147
      exact k_cn ⟨_, _, pin, pinh⟩
  rintro t o ⟨b145, c146, q1, q2⟩
  refine pinnedQ q1 q2 ?_
  refine go ?_; intros
  cases h
  exact r_end
end Go.Proofs.AM
